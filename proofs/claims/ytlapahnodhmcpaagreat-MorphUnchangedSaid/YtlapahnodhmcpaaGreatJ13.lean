/-
  Part of the proof.
-/
import Derived.Test.YtlapahnodhmcpaaGreatJ0
import Derived.Test.YtlapahnodhmcpaaGreatJ12
import Derived.Test.YtlapahnodhmcpaaGreatJ6
import Derived.Shelf.SortM.Plain
import Derived.Shelf.SortM.SortNone
import Derived.Shelf.SlicesG.Reverse
import Derived.Maps.Keyed
set_option linter.unusedVariables false
set_option linter.unusedSectionVars false
set_option linter.unusedSimpArgs false
set_option maxRecDepth 100000
set_option maxHeartbeats 40000000
namespace Go.Am
open Go.RowKit
section
variable {P:Program} {w0:Fr}{M0:Nat→Prop}{s:St}{o:Oper}{id t u j:Nat}{e r T:TypeId}{cs:List Cell}{xs:List AV}{x y:Operand}{E:Env}{a:Act}{w:World}
theorem Mh {f:Nat→Value}{b:Nat}{l:List AV}{ln:Option (Nat×dX)}:¬fX f b (l.map Cell.d) ln:=by rintro⟨j,c,h1,_,h2⟩;rw[aap,aao] at h1;obtain⟨d,_,rfl⟩:=h1;exact h2
theorem ba.S1 (h:ba P w0 M0 E s a w)(hnd:Nodup s.s=true)(aa:∀b,M0 b→b<w0.w.heap.size)(hl:s.o.lookup id=some (.arr e xs)) :
  ∃E':Env,E'.cur=E.cur∧E'.blk=E.blk∧ba P w0 M0 E' (s.cC true id (.nar e ((flat xs).map Cell.d) none)) a w:=by
 obtain⟨vals,h1,h2,h3⟩:=h.wok.objs id _ hl;have hfl:=bO xs h2;obtain⟨E',f1,f2,f3,f4⟩:∃E':Env,E'.cur=E.cur∧E'.blk=E.blk∧(∀i,i≠id→E'.sub i=E.sub i)∧E'.sub id=fun j=>vals.getD j undef:=⟨{ E with sub:=fun i=>if i=id then fun j=>vals.getD j undef else E.sub i },rfl,rfl,fun i hi=>if_neg hi,if_pos rfl⟩
 refine⟨E',f1,f2,h.cC true (fun q=>by cases q) hnd aa (fun i hi=>⟨by rw[f1],by rw[f2]⟩) (.inr (by rw[f2])) none ⟨rfl,rfl,rfl,aak _,fun _ _ _=>rfl⟩ (fun _=>aak _) (fun g hg=>by cases hg) (fun b hb=>.inl ⟨_,hl,?_⟩) (fun rep sv=>?_) f3⟩
 ·rcases hb with hb|hb
  ·rw[f1] at hb;exact hb
  ·exact(Mh hb).elim
 ·refine⟨xs.length,vals,by rw[f1];exact h1,by rw[aai,hfl],fun j hj=>by rw[f4],⟨fun j c hc _=>?_,fun i j ci cj b hi _ _ _ hb _=>?_,(fun j u hu=>by cases hu),(fun j u hu=>by cases hu)⟩,fun b hb=>(Mh hb).elim⟩
  ·rw[aap,aao] at hc;obtain⟨d,hd,rfl⟩:=hc;refine⟨(h3 j d hd).1,?_⟩;rw[f4];exact rep .pl _ _ (h3 j d hd).2 (by simp)
  ·rw[aap,aao] at hi;obtain⟨d,_,rfl⟩:=hi;exact hb.elim
theorem JI (t:Nat)(aa:∀b,M0 b→b<w0.w.heap.size)(hnd:Nodup s.s=true)(ht:s.s.lookup t=some (.own id))(hl:s.o.lookup id=some (.arr e xs)):fF P w0 M0 s ((s.cC true id (.nar e ((flat xs).map Cell.d) none)).put t (.nst id)):=by
 rintro a w ⟨E,hs⟩;have h0:=hs.slots t _ ht;obtain⟨E',hc,_,h1⟩:=hs.S1 hnd aa hl;refine⟨E',h1.DD h0.1 ⟨fun e1 c1 l1 hh=>?_,fun k1 c1 l1 hh=>?_⟩⟩
 ·rw[hc];exact h0.2 e xs hl
 ·rw[show(s.cC true id (.nar e ((flat xs).map Cell.d) none)).o.lookup id=_ from by show(ins id _ _).lookup id=_;rw[ax,if_pos rfl]] at hh;cases hh
theorem Gh {y:Code}{Q:Exit→St→Prop}(t:Nat)(aa:∀b,M0 b→b<w0.w.heap.size)(hnd:Nodup s.s=true)(ht:s.s.lookup t=some (.own id))(hl:s.o.lookup id=some (.arr e xs))(h:ao P w0 M0 y ((s.cC true id (.nar e ((flat xs).map Cell.d) none)).put t (.nst id)) Q):ao P w0 M0 y s Q :=
 ao.imp (JI t aa hnd ht hl) h
theorem ba.borrow (h:ba P w0 M0 E s a w)(hnd:Nodup s.s=true)(aa:∀b,M0 b→b<w0.w.heap.size)(hl:s.o.lookup id=some (.nar e cs none))(hc:cs[j]?=some (.row r xs))(hu:u≠id) :
   ∃E':Env,E'.cur u=E.sub id j∧ba P w0 M0 E' { n:=s.n,s:=s.s.filter (fun p=>p.2.stays true u),o:=ins u (.arr r xs) (ins id (.nar e cs (some (j,.arr u))) (iH true u s.o)) } a w:=by
 obtain⟨n,vals,g1,g2,g3,g4,g5⟩:=h.wok.objs id _ hl;have hrow:=g4.ok j _ hc (by simp);obtain⟨E',e2,e1,e3,e4⟩:∃E':Env,E'.cur u=E.sub id j∧(∀i,i≠u→E'.cur i=E.cur i)∧E'.blk=E.blk∧E'.sub=E.sub:=⟨{ E with cur:=fun i=>if i=u then E.sub id j else E.cur i },if_pos rfl,fun i hi=>if_neg hi,rfl,rfl⟩;refine⟨E',e2,?_⟩;have hN:∀i q,(if i=u then some (some (Ob.arr r xs)) else if i=id then some (some (.nar e cs (some (j,.arr u)))) else none:Option (Option Ob))=some q→(i=u∧q=some (.arr r xs))∨(i=id∧q=some (.nar e cs (some (j,.arr u)))):=fun i q hq=>by
   by_cases h1:i=u
   · rw[if_pos h1] at hq;injection hq with hq;exact .inl ⟨h1,hq.symm⟩
   · rw [if_neg h1] at hq
     by_cases h2:i=id
     · rw[if_pos h2] at hq;injection hq with hq;exact .inr ⟨h2,hq.symm⟩
     · rw[if_neg h2] at hq;cases hq
 have hsubs:∀f b,fX f b cs (some (j,.arr u))→fX f b cs none:=fun f b ⟨i,c,q1,q2,q3⟩=>⟨i,c,q1,by simp,q3⟩
 refine ba.xj (E':=E') (SV.stays true u) (fun i=>if i=u then some (some (.arr r xs)) else if i=id then some (some (.nar e cs (some (j,.arr u)))) else none) _ (fun i=>?_) (fun d=>rfl) (fun i ob hq hx=>?_) (fun i hq=>?_) h hnd aa (fun i hq=>?_) (fun x hx=>by rw[e3]) none ⟨rfl,rfl,rfl,aak _,fun _ _ _=>rfl⟩ (fun _=>aak _) (fun g hg=>by cases hg) (fun i ob b hq hb=>.inl ?_) (fun i ob i' ob' b hq hq' hb hb'=>?_) (fun rep sv lents i ob hq=>?_)
 · rw [ax]
   by_cases h1:i=u
   · rw[if_pos h1,if_pos h1]
   · rw [if_neg h1, if_neg h1, ax]
     by_cases h2:i=id
     · rw[if_pos h2,if_pos h2]
     · rw[if_neg h2,if_neg h2];exact cr true u i s.o
 · rcases hN i _ hq with ⟨rfl, _⟩ | ⟨rfl, q⟩
   · obtain ⟨d, h1, h2⟩ := hx
     rw[hZ h1] at h2;cases h2
   · injection q with q; subst q
     exact⟨e1 i (abi hu),by rw[e3],.inr (.inr (.inr (.inl ⟨e,cs,none,cs,_,hl,rfl,aak _⟩)))⟩
 · rcases hN i _ hq with⟨_,q⟩|⟨_,q⟩<;>cases q
 · refine ⟨e1 i fun q => ?_, by rw [e3], by rw [e4]⟩
   rw[if_pos q] at hq;cases hq
 · refine ⟨id, _, by rw [if_neg (abi hu), if_pos J]; simp, hl, ?_⟩
   rcases hN i _ hq with⟨rfl,q⟩|⟨rfl,q⟩
   · injection q with q; subst q
     have hb:(E'.cur i).ownBlock=some b:=hb;rw[e2] at hb;exact .inr ⟨j,_,hc,by simp,hb⟩
   · injection q with q; subst q
     rcases hb with hb|hb
     · rw[e1 i (abi hu)] at hb;exact .inl hb
     · rw[e4] at hb;exact .inr (hsubs _ _ hb)
 · have key : ∀ b, (E.sub id j).ownBlock = some b → bE E' id b (.nar e cs (some (j, .arr u))) → False := fun b h1 h2 => by
     rcases h2 with h2|⟨i2,c2,q1,q2,q3⟩
     · rw [e1 id (abi hu)] at h2
       exact g5 b ⟨j,_,hc,by simp,h1⟩ h2
     · rw [e4] at q3
       have:=g4.apart i2 j c2 _ b q1 hc (by simp) (by simp) q3 h1;subst this;exact q2 J
   rcases hN i _ hq with⟨rfl,q⟩|⟨rfl,q⟩
   · injection q with q; subst q
     rcases hN i' _ hq' with⟨rfl,q'⟩|⟨rfl,q'⟩
     · rfl
     · injection q' with q'; subst q'
       exact(key b (by rw[←e2];exact hb) hb').elim
   · injection q with q; subst q
     rcases hN i' _ hq' with⟨rfl,q'⟩|⟨rfl,q'⟩
     · injection q' with q'; subst q'
       exact(key b (by rw[←e2];exact hb') hb).elim
     · rfl
 · rcases hN i _ hq with ⟨rfl, q⟩ | ⟨rfl, q⟩
   · injection q with q; subst q
     obtain⟨vals',h1,h2,h3⟩:=hrow;exact⟨vals',by rw[e2];exact h1,h2,fun k d hd=>⟨(h3 k d hd).1,rep .pl _ _ (h3 k d hd).2 (by simp)⟩⟩
   · injection q with q; subst q
     refine⟨n,vals,by rw[e1 i (abi hu)];exact g1,g2,by rw[e4];exact g3,⟨fun k c hk hn=>by rw[e4];exact(g4.ok k c hk (by simp)).go (fun _ _=>rfl) (fun _ _ hf=>hf) (fun v d hr=>rep .pl v d hr (by simp)),fun i1 i2 c1 c2 b h1 h2 _ _ h5 h6=>by rw[e4] at h5 h6;exact g4.apart i1 i2 c1 c2 b h1 h2 (by simp) (by simp) h5 h6,fun k u' hk=>?_,(fun k u' hk=>by cases hk)⟩,fun b hb=>by rw[e1 i (abi hu)];rw[e4] at hb;exact g5 b (hsubs _ _ hb)⟩;cases hk;rw[e4];exact e2.symm
def ie (u:Nat)(o:List (Nat×Ob)):List (Nat×Ob):=o.filter fun p=>!(Nat.beq p.1 u)
theorem c9 (u i:Nat):∀o:List (Nat×Ob),(ie u o).lookup i=if i=u then none else o.lookup i
 | []=>by unfold ie;simp
 | (t, d) :: r => by
   have ih:=c9 u i r;unfold ie at ih ⊢;rw[abb];by_cases h:t=u
   · subst h
     rw[if_neg (by simp),ih,aj];by_cases hi:i=t
     · rw[if_pos hi,if_pos hi]
     · rw[if_neg hi,if_neg hi,if_neg hi]
   · have hb : (!(Nat.beq t u)) = true := by
       cases q:Nat.beq t u with
       | false=>rfl
       | true=>exact absurd (aa7 q) h
     rw[if_pos hb,aj,aj,ih];by_cases hi:i=t
     · rw[if_pos hi,if_pos hi,if_neg (by rw[hi];exact h)]
     · rw[if_neg hi,if_neg hi]
theorem ba.Mi (h:ba P w0 M0 E s a w)(hnd:Nodup s.s=true)(aa:∀b,M0 b→b<w0.w.heap.size)(hl:s.o.lookup id=some (.nar e cs (some (j,.arr u))))(hj:j<cs.length)(hlu:s.o.lookup u=some (.arr r xs)) :
   ba P w0 M0 E { n:=s.n,s:=s.s.filter (fun p=>p.2.stays true u),o:=ins id (.nar e (cs.set j (.row r xs)) none) (ie u (iH true u s.o)) } a w:=by
 have hu:u≠id:=fun q=>by rw[q,hl] at hlu;cases hlu
 obtain⟨n,vals,g1,g2,g3,g4,g5⟩:=h.wok.objs id _ hl;have hv:=g4.larr j u rfl;have hN:∀i q,(if i=u then some none else if i=id then some (some (Ob.nar e (cs.set j (.row r xs)) none)) else none:Option (Option Ob))=some q→(i=u∧q=none)∨(i=id∧q=some (.nar e (cs.set j (.row r xs)) none)):=fun i q hq=>by
   by_cases h1:i=u
   · rw[if_pos h1] at hq;injection hq with hq;exact .inl ⟨h1,hq.symm⟩
   · rw [if_neg h1] at hq
     by_cases h2:i=id
     · rw[if_pos h2] at hq;injection hq with hq;exact .inr ⟨h2,hq.symm⟩
     · rw[if_neg h2] at hq;cases hq
 have hcell:∀(k:Nat) c,(cs.set j (.row r xs))[k]?=some c→(k=j∧c=.row r xs)∨(k≠j∧cs[k]?=some c):=fun k c hk=>by
   by_cases q:k=j
   · subst q
     rw[abI hj] at hk;exact .inl ⟨rfl,by injection hk with hk;exact hk.symm⟩
   · rw [abL (abi q)] at hk
     exact .inr ⟨q,hk⟩
 have hne:∀k,k≠j→(some (j,dX.arr u)).map (·.1)≠some k:=fun k q q2=>by
   injection q2 with q2;exact q q2.symm
 have hsub:∀b,fX (E.sub id) b (cs.set j (.row r xs)) none→bE E u b (.arr r xs)∨fX (E.sub id) b cs (some (j,.arr u)):=fun b ⟨k,c,q1,_,q3⟩=>by
   rcases hcell k c q1 with⟨rfl,rfl⟩|⟨q4,q5⟩
   · refine .inl ?_
     show(E.cur u).ownBlock=some b;rw[←hv];exact q3
   · exact .inr ⟨k,c,q5,hne k q4,q3⟩
 refine ba.xj (E':=E) (SV.stays true u) (fun i=>if i=u then some none else if i=id then some (some (.nar e (cs.set j (.row r xs)) none)) else none) _ (fun i=>?_) (fun d=>rfl) (fun i ob hq hx=>?_) (fun i hq=>⟨rfl,rfl⟩) h hnd aa (fun i hq=>⟨rfl,rfl,rfl⟩) (fun x hx=>rfl) none ⟨rfl,rfl,rfl,aak _,fun _ _ _=>rfl⟩ (fun _=>aak _) (fun g hg=>by cases hg) (fun i ob b hq hb=>.inl ?_) (fun i ob i' ob' b hq hq' hb hb'=>?_) (fun rep sv lents i ob hq=>?_)
 · rw [ax]
   by_cases h2:i=id
   · rw[if_pos h2,if_neg (fun q=>hu (q.symm.trans h2)),if_pos h2]
   · rw [if_neg h2, c9]
     by_cases h1:i=u
     · rw[if_pos h1,if_pos h1]
     · rw[if_neg h1,if_neg h1,if_neg h2];exact cr true u i s.o
 · rcases hN i _ hq with ⟨_, q⟩ | ⟨rfl, q⟩
   · cases q
   · injection q with q; subst q
     exact⟨rfl,rfl,.inr (.inr (.inr (.inl ⟨e,cs,_,_,_,hl,rfl,by rw[ab3];exact aak _⟩)))⟩
 · rcases hN i _ hq with ⟨_, q⟩ | ⟨rfl, q⟩
   · cases q
   · injection q with q; subst q
     rcases hb with hb|hb
     · exact⟨i,_,by rw[if_neg (abi hu),if_pos J];simp,hl,.inl hb⟩
     · rcases hsub b hb with q1 | q1
       · exact⟨u,_,by rw[if_pos J];simp,hlu,q1⟩
       · exact⟨i,_,by rw[if_neg (abi hu),if_pos J];simp,hl,.inr q1⟩
 · rcases hN i _ hq with ⟨_, q⟩ | ⟨rfl, _⟩
   · cases q
   · rcases hN i' _ hq' with ⟨_, q⟩ | ⟨rfl, _⟩
     · cases q
     · rfl
 · rcases hN i _ hq with ⟨_, q⟩ | ⟨rfl, q⟩
   · cases q
   · injection q with q; subst q
     obtain⟨vals',h1,h2,h3⟩:=h.wok.objs u _ hlu;have apart:∀b,bE E u b (.arr r xs)→bE E i b (.nar e cs (some (j,.arr u)))→False:=fun b q1 q2=>hu (h.wok.disj u _ i _ b hlu hl q1 q2)
     have blk:∀b,(E.sub i j).ownBlock=some b→bE E u b (.arr r xs):=fun b q=>by
       show(E.cur u).ownBlock=some b;rw[←hv];exact q
     refine⟨n,vals,g1,by rw[ab3];exact g2,fun k hk=>g3 k (by rwa [ab3] at hk),⟨fun k c hk _=>?_,fun i1 i2 c1 c2 b q1 q2 _ _ q5 q6=>?_,(fun k u' hk=>by cases hk),(fun k u' hk=>by cases hk)⟩,fun b hb=>?_⟩
     · rcases hcell k c hk with ⟨rfl, rfl⟩ | ⟨q4, q5⟩
       · exact⟨vals',by rw[hv];exact h1,h2,fun k d hd=>⟨(h3 k d hd).1,rep .pl _ _ (h3 k d hd).2 (by simp)⟩⟩
       · exact(g4.ok k c q5 (hne k q4)).go (fun _ _=>rfl) (fun _ _ hf=>hf) (fun v d hr=>rep .pl v d hr (by simp))
     · rcases hcell i1 c1 q1 with ⟨rfl, rfl⟩ | ⟨p1, p2⟩
       · rcases hcell i2 c2 q2 with ⟨rfl, rfl⟩ | ⟨p3, p4⟩
         · rfl
         · exact(apart b (blk b q5) (.inr ⟨i2,c2,p4,hne i2 p3,q6⟩)).elim
       · rcases hcell i2 c2 q2 with ⟨rfl, rfl⟩ | ⟨p3, p4⟩
         · exact(apart b (blk b q6) (.inr ⟨i1,c1,p2,hne i1 p1,q5⟩)).elim
         · exact g4.apart i1 i2 c1 c2 b p2 p4 (hne i1 p1) (hne i2 p3) q5 q6
     · rcases hsub b hb with q1 | q1
       · exact fun q=>apart b q1 (.inl q)
       · exact g5 b q1
theorem B0 (aa:∀b,M0 b→b<w0.w.heap.size)(hnd:Nodup s.s=true)(hl:s.o.lookup id=some (.nar e cs (some (j,.arr u))))(hj:j<cs.length)(hlu:s.o.lookup u=some (.arr r xs)) :
 fF P w0 M0 s { n:=s.n,s:=s.s.filter (fun p=>p.2.stays true u),o:=ins id (.nar e (cs.set j (.row r xs)) none) (ie u (iH true u s.o)) }:=fun a w ⟨E,hs⟩=>⟨E,hs.Mi hnd aa hl hj hlu⟩
theorem kI {y:Code}{Q:Exit→St→Prop}(id u:Nat)(aa:∀b,M0 b→b<w0.w.heap.size)(hnd:Nodup s.s=true)(hl:s.o.lookup id=some (.nar e cs (some (j,.arr u))))(hj:j<cs.length)(hlu:s.o.lookup u=some (.arr r xs))
 (h:ao P w0 M0 y { n:=s.n,s:=s.s.filter (fun p=>p.2.stays true u),o:=ins id (.nar e (cs.set j (.row r xs)) none) (ie u (iH true u s.o)) } Q):ao P w0 M0 y s Q:=ao.imp (B0 aa hnd hl hj hlu) h
end
section
variable {P:Program} {w0:Fr}{M0:Nat→Prop}{s:St}{o:Oper}{ρ:Operand→Option SV}{ob:List (Nat×Ob)}{id t u j k b:Nat}{e r T:TypeId}{cs:List Cell}{ln:Option (Nat×dX)}{xs:List AV}{x y:Operand}
theorem Az {w:World}{E:Env}{o:List (Nat×Ob)}(h:kT P w0 M0 w E o id (.nar e cs ln))(hk:bY P e=some 1):(E.cur id=.slice none 0 0∧cs.length=0)∨∃g cap,E.cur id=.slice (some ⟨g,0,none⟩) cs.length cap:=by
 obtain⟨n,vals,h1,h2,h3,h4,h5⟩:=h;have hn:cs.length=n:=by rw[h2,cL hk,abJ]
 rcases h1.1.2 with⟨hv,h0⟩|⟨g,cap,cur,hv,_⟩
 ·exact .inl ⟨hv,acK⟩
 ·exact .inr ⟨g,cap,by rw[hv,hn]⟩
theorem B1 (ho:o.op=.call { callee:=.builtin .len,args:=#[x],argTypes:=#[T] })(hT:P.underlying T=some (.slice e))(hk:bY P e=some 1)(hx:ρ x=some (.nst id))(hl:ob.lookup id=some (.nar e cs ln)) :
  Pure P w0 M0 o ρ ob (.v .pl (.sc (.int .i64 cs.length))) :=
 aD fun E w ev hw h=>by
  have hv:=(h x _ hx).1 e cs ln hl;refine⟨.int .i64 cs.length,w,?_,.refl _ _,.sc _ J⟩;rcases Az (hw.objs id _ hl) hk with⟨q,h0⟩|⟨g,cap,q⟩
  ·rw[q] at hv;simp[execOp,ho,resolve,hv,invoke,builtin,Builtin.len_,run_underlying hT,goInt,h0]
  ·rw[q] at hv;simp[execOp,ho,resolve,hv,invoke,builtin,Builtin.len_,run_underlying hT,goInt]
theorem da {q:IntKind}{i:Int}(ho:o.op=.indexAddr T x y)(hT:P.underlying T=some (.slice e))(hk:bY P e=some 1)(hx:ρ x=some (.nst id))(hl:ob.lookup id=some (.nar e cs ln))(hy:aZ ρ y=some (.int q i))(h:0≤i∧i<cs.length) :
   Pure P w0 M0 o ρ ob (.nel id i.toNat) :=
 aD fun E w ev hw hh=>by
   have hr:=(hh x _ hx).1 e cs ln hl;have hi:=bK hh hy;rcases Az (hw.objs id _ hl) hk with⟨_,h0⟩|⟨g,cap,hv⟩
   · omega
   · rw [hv] at hr
     have hel:P.elem T=e:=by simp[Program.elem,hT]
     refine⟨.pointer (some ⟨g,i.toNat,none⟩),w,?_,.refl _ _,fun e' cs' ln' h'=>?_⟩
     · have hin : 0 ≤ i ∧ i < (cs.length : Int) := h
       simp[execOp,ho,hr,hi,run_indexAt_slice,hel,hT,hin,dt hk,Addr.add_lit]
     · rw [hl] at h'
       simp only[aaj,Ob.nar.injEq] at h';obtain⟨_,rfl,_⟩:=h';exact⟨acK,g,by rw[hv];rfl,rfl⟩
theorem Mj {w:World}{E:Env}{o':List (Nat×Ob)}{v:Value}{g:Nat}(h:kT P w0 M0 w E o' id (.nar e cs ln))(hj:j<cs.length)(hg:(E.cur id).ownBlock=some g)(hv:v=.pointer (some ⟨g,j,none⟩))(ho:o.op=.load T x)(hT:bo P T=some false){ev:Operand→Value}(hx:ev x=v) :
  (execOp ev o).run P w=.ok (.value (E.sub id j)) w:=by
 obtain⟨n,vals,h1,h2,h3,h4,h5⟩:=h;have hvl:j<vals.length:=by rw[h1.1.1,←h2];exact hj
 have hcell:=h1.1.cells hg j _ (aal hvl);rw[Addr.add_lit,abg] at hcell;have e1:vals[j]=E.sub id j:=by
  rw[←h3 j hj,aag,aal hvl];rfl
 rw[e1] at hcell;simp[execOp,ho,hx,hv,Instr.loadAt,Instr.sureAddr,loadVar,dj hT,hcell]
theorem db (ho:o.op=.load T x)(hT:bo P T=some false)(hx:ρ x=some (.nel id j))(hl:ob.lookup id=some (.nar e cs (some (j,.arr u)))):Pure P w0 M0 o ρ ob (.own u) :=
 aD fun E w ev hw h=>by
  obtain⟨hj,g,hg,hv⟩:=h x _ hx e cs _ hl;have h0:=hw.objs id _ hl;have hr:=Mj h0 hj hg hv ho hT (ev:=ev) rfl;obtain⟨n,vals,h1,h2,h3,h4,h5⟩:=h0;exact⟨_,w,hr,.refl _ _,fun _ _ _=>h4.larr j u J⟩
end
open Go.Sort Go.Proofs
structure Mk (P:Program)(f:FuncId):Prop where
 bu:cg P f
 none:∀(p:Option Addr)(cap:Nat)(w:World),Calls P f #[.slice p 0 cap] w fun e w'=>e=.returned (.tuple #[])∧w'=w
 some:∀(blk off cap:Nat)(zs:List Int)(w:World)(hH:Holds (Value.int .i64) w blk off zs.toArray)(hblk:blk<w.heap.size)(hsz:zs.length<4611686018427387904),
  Calls P f #[.slice (.some ⟨blk,off,.none⟩) zs.length cap] w fun e w' =>
   e=.returned (.tuple #[])∧∃n os,w'=grow (putRow (Value.int .i64) (Sort.ahead w n) blk off (zs.mergeSort fun x y=>decide (x≤y)).toArray) os
section
variable {P:Program} {w0:Fr}{M0:Nat→Prop}
variable {o:Oper} {s:St}{x y:Operand}{T T' e:TypeId}{c:fW}{id t:Nat}
theorem xG {l:List Int}{f:FuncId}{ats:Array TypeId}(hS:Mk P f)(ho:o.op=.call { callee:=.value (.func f),args:=#[x],argTypes:=ats })(hd:o.dst=some t)(hn:Nat.blt t s.n=true)
   (hnd:Nodup s.s=true)(hx:s.ev x=some (.own id))(hl:s.o.lookup id=some (.arr e (l.map int)))(hk:bY P e=some 1)(hsz:l.length<4611686018427387904)(aa:∀b,M0 b→b<w0.w.heap.size) :
   Step P w0 M0 o s ((s.cC false id (.arr e ((l.mergeSort fun x y=>decide (x≤y)).map int))).put t (.v .pl (.tup []))):=by
 rintro a w Q ⟨E,hs⟩;have hxv:=hs.ev hx _ _ hl;have hob:=hs.wok.objs id _ hl;obtain⟨vals,⟨hown,hownF⟩,hcl,hrp⟩:=hob;have hck:=cL hk;have hxl:(l.map int).length=l.length:=by simp
 have hvals:vals=l.map (Value.int .i64):=by
   apply abe;intro j;have hlen:vals.length=l.length:=by have:=hown.1;rw[hck] at this;simpa using this
   rcases aaK j l.length with hj|hj
   · have h2 := (hrp j (.sc (.int .i64 l[j])) (by rw [show l.map int = l.map fun z => AV.sc (Value.int .i64 z) from rfl, BN, aap, aal hj]; rfl)).2
     rw[aag,aal acK,ace] at h2;rw[aal acK,aap,aal hj,aa3]
     congr 1
     generalize vals[j]=u at h2 ⊢;cases h2;rfl
   · rw[aaR acK,aaR (by simpa using hj)]
 have hrun:(execOp a.eval o).run P w=.ok (.enter f #[E.cur id]) w:=by
   have:=fE (P:=P) (ev:=a.eval) (w:=w) (caps:=#[]) ho rfl hS.bu;simpa[hxv] using this
 unfold Oper.wp;rw[hrun];simp only[Oper.upon];rcases hown.2 with⟨hv,hn0⟩|⟨gb,cap,cur,hv,hgb,hh,hnc',hcm,hcs,htake⟩
 · -- nothing to sort
   have hl0:l=[]:=aaD (by simpa using hn0);rw[hv];refine(hS.none none 0 w).mono fun e' w' ⟨he,hw⟩=>?_
   subst he;subst hw;simp only[hd];refine⟨E,ba.put ?_ (by simpa[St.cC] using hn) (bJ.tup [] [] J (fun j d hd=>by simp at hd))⟩;refine hs.cC false (fun _=>⟨rfl,.inl ⟨e,_,_,hl,rfl,by simp⟩⟩) hnd aa (fun i hi=>⟨rfl,rfl⟩) (.inr J) none ⟨rfl,rfl,rfl,aak _,fun _ _ _=>rfl⟩ (fun _=>aak _) (fun g hg'=>by cases hg') (fun b hb=>.inl ⟨_,hl,hb⟩) (fun rep sv=>?_);subst hl0;simp only[acp,abu];refine⟨[],⟨⟨by simp,.inl ⟨hv,rfl⟩⟩,hownF⟩,fun x hx=>(by cases hx),fun j d hd=>(by simp[flat] at hd)⟩
 · rw [hxl] at hv hnc' htake
   rw[hck,abJ] at hcs;rw[hck,abJ,hvals] at htake;rcases aby l.length with hl0|hpos
   · -- nothing to sort, with room behind
     have hl0:l=[]:=aaD hl0;rw[hv,hl0];refine(hS.none _ cap w).mono fun e' w' ⟨he,hw⟩=>?_
     subst he;subst hw;simp only[hd];refine⟨E,ba.put ?_ (by simpa[St.cC] using hn) (bJ.tup [] [] J (fun j d hd=>by simp at hd))⟩;refine hs.cC false (fun _=>⟨rfl,.inl ⟨e,_,_,hl,rfl,by simp[hl0]⟩⟩) hnd aa (fun i hi=>⟨rfl,rfl⟩) (.inr J) none ⟨rfl,rfl,rfl,aak _,fun _ _ _=>rfl⟩ (fun _=>aak _) (fun g hg'=>by cases hg') (fun b hb=>.inl ⟨_,hl,hb⟩) (fun rep sv=>?_);simp only[acp,abu];refine⟨[],⟨⟨by simp,.inr ⟨gb,cap,cur,by rw[hv,hl0];rfl,hgb,hh,aan _,hcm,by rw[hck,abJ];exact hcs,by simp⟩⟩,hownF⟩,fun x hx=>(by cases hx),fun j d hd=>(by simp[flat] at hd)⟩
   · have hblk : gb < w.heap.size := (aaV.1 hh).1
     have hcurj:∀j (hj:j<l.length),cur[j]?=some (Value.int .i64 l[j]):=fun j hj=>by
       have:(cur.toList.take l.length)[j]?=some (Value.int .i64 l[j]):=by rw[htake,aap,aal hj];rfl
       rw[aa1,if_pos hj,aaS] at this;exact this
     have hH:Holds (Value.int .i64) w gb 0 l.toArray:=by
       intro j hj;have hj':j<l.length:=by simpa using hj
       refine⟨?_,?_⟩
       · simp only [World.cell?, hh, abg]
         rw[getElem!_pos l.toArray j hj];simpa using hcurj j hj'
       · simp only [World.frozen?, hh]
         simp
     have hcall:=hS.some gb 0 cap l w hH hblk hsz;rw[hv];refine hcall.mono fun e' w' ⟨he,n,os,hw⟩=>?_
     subst he;simp only[hd];generalize hml:(l.mergeSort fun x y=>decide (x≤y))=ml at hw;have hmll:ml.length=l.length:=by rw[←hml];simp
     have hw':w'=sortWorld (Value.int .i64) w gb 0 n ml.toArray os:=hw;have hdrawn:w.drawn≤w'.drawn:=by rw[hw'];simp[sortWorld,grow,putRow,mapBlock,Sort.ahead]
     have hgr:w.grownBy w' (some gb):=by
       rw[hw'];exact⟨rfl,rfl,rfl,by rw[fH];omega,fun k hk hne=>eQ _ _ _ _ _ _ (fun he=>hne (by rw[he])) hk⟩
     have hhw:w'.heap[gb]?=some (.cells (putCells (Value.int .i64) 0 ml.toArray cur) e (0,0)):=by
       have:=jV (enc:=Value.int .i64) w gb n ml.toArray os (off:=0) hh;rw[hw'];exact this
     refine⟨E,ba.put ?_ (by simpa[St.cC] using hn) (bJ.tup [] [] J (fun j d hd=>by simp at hd))⟩;refine hs.cC false (fun _=>⟨rfl,.inl ⟨e,_,_,hl,rfl,by simp[hmll]⟩⟩) hnd aa (fun i hi=>⟨rfl,rfl⟩) (.inr J) (some gb) hgr (fun _=>hdrawn) (fun g' hg'=>⟨_,hl,by simp only[aaj] at hg';subst hg';simp only[bE,hv,Value.ownBlock]⟩) (fun b hb=>.inl ⟨_,hl,hb⟩) (fun rep sv=>?_);refine⟨ml.map (Value.int .i64),⟨⟨by rw[hck];simp,.inr ⟨gb,cap,_,by rw[hv];simp[hmll],hgb,hhw,by simpa[hmll] using hnc',hcm,by rw[hck,abJ];simpa[putCells] using hcs,?_⟩⟩,hownF⟩,?_,fun j d' hd'=>?_⟩
     · rw [hck]
       apply abe;intro j;simp only[aai,abJ,hmll];rw[aa1];by_cases hj:j<l.length
       · rw [if_pos hj, aaS]
         simp only[putCells,Array.getElem?_mapIdx,hcurj j hj,aa3,aan,true_and,abg,acI,hmll,hj,if_true,ab7];rw[aap,aal acK,aa3,getElem!_pos ml.toArray j (by simp;omega)];simp
       · rw[if_neg hj,aaR (by simp;omega)]
     · intro x hx
       rw[aaG] at hx;obtain⟨z,_,rfl⟩:=hx;rw[hck];rfl
     · rw [show ml.map int = ml.map fun z => AV.sc (Value.int .i64 z) from rfl, BN, aap, aao] at hd'
       obtain⟨z,hz,rfl⟩:=hd';refine⟨rfl,?_⟩;rw[aag,aap,hz];exact .sc _ J
end
section
variable {P:Program} {w0:Fr}{M0:Nat→Prop}
variable {o:Oper} {s:St}{x y:Operand}{T T' e:TypeId}{c:fW}{id t:Nat}
end
variable{n:Nat}{o1 o2:List (Nat×Ob)}
section
variable {P:Program} {w0:Fr}{M0:Nat→Prop}{ops:Array Oper}{Q:St→Prop}
def uv (ops:Array Oper)(n k:Nat)(eff:Nat→Bool):Bool:=(List.range k).all fun i=>match ops[i]? with
 | none=>false
 | some o => o.guard.isNone && (match o.dst with | some t => Nat.blt t n | none => eff i) &&
   (List.range k).all fun j=>match(ops[j]?).bind (·.dst) with
     | some u=>!(looks ops o).contains u||(gd o).contains j
     | none=>true
theorem Gi {id:Nat}  {s0:List (Nat×SV)}  (eff:Nat→Bool) (oL:Array Bool→List (Nat×Ob)) (k:Nat) (G:List (Nat×SV)) {Q':Exit→St→Prop} (hm:P.follows .mixedOrders=true) (hok:l7 ops=true) (htl:fz ops k=true) (hmid:uv ops n k eff=true) (hks:Nat.ble k ops.size=true)
   (hG:∀t d,(G.filter fun p=>ez ops k #[] p.1).lookup t=some d→s0.lookup t=some d)(hnd:Nodup G=true)
   (hset:∀i t,i<k→(ops[i]?).bind (·.dst)=some t→∃d,G.lookup t=some d)
   (hO1:∀L:Array Bool,(∀j,L.getD j false=false)→oL L=o1)(hO2:∀L:Array Bool,(∀j,j<k→L.getD j false=true)→oL L=o2)
   (hP:∀(L:Array Bool) i o t d,L.size=ops.size→ov ops L→(∀j,j∈kV ops ops.size i→L.getD j false=true)→L.getD i false=false→i<k→eff i=false→ops[i]?=some o→o.dst=some t→G.lookup t=some d→Pure P w0 M0 o (fq ops o (St.ev ⟨n,G,oL L⟩)) (oL L) d∧oL (L.setIfInBounds i true)=oL L)
   (hE:∀(L:Array Bool) i o X,L.size=ops.size→ov ops L→(∀j,j∈kV ops ops.size i→L.getD j false=true)→L.getD i false=false→i<k→eff i=true→ops[i]?=some o→Nodup X=true→(∀t d,X.lookup t=some d→G.lookup t=some d)→(∀t,t∈looks ops o→X.lookup t=G.lookup t) →
     ∃s',Step P w0 M0 o ⟨n,X,oL L⟩ s'∧fF P w0 M0 s' ⟨n,(match o.dst with|some t=>(match G.lookup t with|some d=>ins t d X|none=>X)|none=>X),oL (L.setIfInBounds i true)⟩)
   (hend:rZ P w0 M0 ops (fun s=>∃s',fF P w0 M0 s s'∧Q' .normal s') k ⟨n,G,o2⟩):ao P w0 M0 (.region id ops true) ⟨n,s0,o1⟩ Q':=by
 have hks:=aah hks;obtain⟨hns,hsp⟩:=mM hok;have hlt:∀i o,ops[i]?=some o→∀j∈gd o,j<i:=fun i o ho=>(hsp i o ho).1
 have hmid':∀i o,i<k→ops[i]?=some o→o.guard=none∧(∀t,o.dst=some t→t<n)∧(eff i=false→∃t,o.dst=some t)∧∀j u,j<k→(ops[j]?).bind (·.dst)=some u→u∈looks ops o→j∈gd o:=by
   intro i o hi ho;unfold uv at hmid;rw[aaF] at hmid;have h:=hmid i (aaI.2 hi);simp only[ho,aax,aaF] at h;refine⟨by simpa using h.1.1,fun t ht=>?_,fun he=>?_,fun j u hj hu hl=>?_⟩
   · have h2 := h.1.2
     rw[ht] at h2;simpa using h2
   · cases hd : o.dst with
     | none =>
       have h2:=h.1.2;rw[hd] at h2;have h3:eff i=true:=h2;rw[he] at h3;cases h3
     | some t=>exact⟨t,rfl⟩
   · have := h.2 j (aaI.2 hj)
     rw[hu] at this;simp only[aba,aa5] at this;rcases this with h'|h'
     · have : (looks ops o).contains u = true := aa4.2 hl
       rw[h'] at this;cases this
     · exact aa4.1 h'
 let sL:Array Bool→St:=fun L=>⟨n,G.filter (fun p=>ez ops k L p.1),oL L⟩
 have main : ∀ (fuel : Nat) (L : Array Bool) (ac : Act) (w : World), L.size = ops.size → ov ops L → (∀ j, k ≤ j → L.getD j false = false) → pE P w0 M0 (sL L) ac w →
     ((List.range ops.size).filter (fun j=>!L.getD j false)).length≤fuel →
     wpAny P .any ops (fun e a' w'=>e=.normal∧∃s',(∃s'',fF P w0 M0 s' s''∧Q' .normal s'')∧pE P w0 M0 s' a' w') fuel L ac w:=by
   intro fuel;have ready_ne:∀(L:Array Bool),L.size=ops.size→∀j,j<ops.size→L.getD j false=false→Region.ready .any ops L≠[]:=by
     intro L hL j
     induction j using Nat.strongRecOn with
     | _ j ih =>
       intro hj hf;by_cases hall:∀i∈gd ops[j],L.getD i false=true
       · intro he
         have:j∈Region.ready .any ops L:=gI.2 ⟨by
           have:L[j]?=some L[j]:=aaM acK;simp[this] at hf ⊢;exact hf,ops[j],aaM hj,hall⟩
         rw[he] at this;cases this
       · simp only [Classical.not_forall] at hall
         obtain⟨i,hi,hif⟩:=hall;have hij:=hlt j ops[j] (aaM hj) i hi;exact ih i hij acK (by cases hh:L.getD i false<;>simp_all)
   -- once all up to k are carried out
   have rest:∀(f:Nat)(L:Array Bool)(ac:Act)(w:World),L.size=ops.size→(∀j,k≤j→L.getD j false=false)→(∀j,j<k→L.getD j false=true)→pE P w0 M0 (sL L) ac w→((List.range ops.size).filter (fun j=>!L.getD j false)).length≤f →
       wpAny P .any ops (fun e a' w'=>e=.normal∧∃s',(∃s'',fF P w0 M0 s' s''∧Q' .normal s'')∧pE P w0 M0 s' a' w') f L ac w:=by
     intro f L ac w hL hk hall hs hf;have hiff:∀j,j<ops.size→(L.getD j false=true↔j<k):=fun j hj=>⟨fun h=>(by
       rcases aaK j k with h'|h'
       · exact h'
       · rw[hk j h'] at h;cases h),hall j⟩
     have h3:(List.range ops.size).filter (fun j=>!L.getD j false)=(List.range ops.size).filter (fun j=>decide (k≤j)):=by
       apply List.filter_congr;intro j hj;have hj':=aaI.1 hj;cases hv:L.getD j false
       · have : ¬ j < k := fun h => by rw [(hiff j hj').2 h] at hv; cases hv
         simp;omega
       · have := (hiff j hj').1 hv
         simp;omega
     rw[h3,DG] at hf;have hs2:pE P w0 M0 ⟨n,G,o2⟩ ac w:=by
       refine eO (s:=sL L) (s':=⟨n,G,o2⟩) J (by show o2=oL L;exact(hO2 L hall).symm) (fun t d ht=>?_) ac w hs;show(G.filter (fun p=>ez ops k L p.1)).lookup t=some d;rw[bZ,if_pos (gL.2 fun j hj _=>hall j hj)];exact ht
     exact hend f L ac w hL hiff hs2 hf
   induction fuel with
   | zero =>
     intro L ac w hL hc hk hs hfu;have hall:∀j,j<ops.size→L.getD j false=true:=by
       intro j hj;cases hf:L.getD j false
       · have : j ∈ (List.range ops.size).filter (fun j => !L.getD j false) := aa9.2 ⟨aaI.2 hj, by simp [hf]⟩
         have:=abW this;omega
       · rfl
     exact rest 0 L ac w hL hk (fun j hj=>hall j acK) hs hfu
   | succ fuel ih =>
     intro L ac w hL hc hk hs hfu;by_cases hallk:∀j,j<k→L.getD j false=true
     · exact rest _ L ac w hL hk hallk hs hfu
     refine⟨fun hr=>?_,fun i hi=>?_⟩
     · exfalso
       apply hallk;intro j hj;cases hf:L.getD j false
       · exact absurd hr (ready_ne L hL j acK hf)
       · rfl
     · obtain ⟨hni, o, ho, hpre⟩ := gI.1 hi
       have his:=(aaV.1 ho).1;have BF:L.getD i false=false:=by
         have hx:L[i]?=some L[i]:=aaM acK;simp[hx] at hni ⊢;exact hni
       have hik:i<k:=by
         rcases aaK i k with h|h
         · exact h
         · exfalso
           apply hallk;unfold fz at htl;rw[aaF] at htl;have h2:=htl i (aaI.2 his);rw[aba] at h2;rcases h2 with h2|h2
           · have : i < k := by simpa using h2
             omega
           · rw [aaF] at h2
             exact fun j hj=>eV hc ops.size i o ho hpre hlt j (aa4.1 (h2 j (aaI.2 acK)))
       obtain⟨hgd,hdn,hdp,hread⟩:=hmid' i o hik ho;have hanc:∀j,j∈kV ops ops.size i→L.getD j false=true:=fun j hj=>eV hc ops.size i o ho hpre hlt j hj
       have hlook:∀t,t∈looks ops o→(sL L).s.lookup t=G.lookup t:=fun t ht=>by
         show(G.filter (fun p=>ez ops k L p.1)).lookup t=_;rw[bZ,if_pos (gL.2 fun j hj hd=>hpre j (hread j t hj hd ht))]
       have hstep:∃s',Step P w0 M0 o (sL L) s'∧fF P w0 M0 s' (sL (L.setIfInBounds i true)):=by
         have SU:Nodup (sL L).s=true:=lH _ _ hnd;have dH:∀t d,(sL L).s.lookup t=some d→G.lookup t=some d:=fun t d ht=>by
           have ht':(G.filter (fun p=>ez ops k L p.1)).lookup t=some d:=ht;rw[bZ] at ht';split at ht'
           · exact ht'
           · cases ht'
         have hfinS:∀ti di,o.dst=some ti→G.lookup ti=some di→∀ob,ob=oL (L.setIfInBounds i true)→fF P w0 M0 ⟨n,ins ti di (sL L).s,ob⟩ (sL (L.setIfInBounds i true)):=fun ti di hdst Lh=>by
           have hb:(ops[i]?).bind (·.dst)=some ti:=by rw[ho];exact hdst
           have hkeep:∀t,t≠ti→ez ops k (L.setIfInBounds i true) t=true→ez ops k L t=true:=fun t hne h=>by
             rw[gL] at h ⊢;intro j hj hd;have:=h j hj hd;rw[ck acK] at this;by_cases hji:j=i
             · subst hji;rw[hb] at hd;simp only[aaj] at hd;exact absurd hd.symm hne
             · rwa [if_neg hji] at this
           intro ob hob;refine eO J hob.symm (fun t d ht=>?_);have ht':(G.filter (fun p=>ez ops k (L.setIfInBounds i true) p.1)).lookup t=some d:=ht;rw[bZ] at ht';split at ht'
           · rename_i hkp
             rw[ax];by_cases hne:t=ti
             · subst hne
               rw[if_pos rfl,←Lh,ht']
             · rw [if_neg hne]
               show(G.filter (fun p=>ez ops k L p.1)).lookup t=_;rw[bZ,if_pos (hkeep t hne hkp)];exact ht'
           · cases ht'
         by_cases hef:eff i=true
         · obtain ⟨s', g3, g4⟩ := hE L i o (sL L).s hL hc hanc BF hik hef ho SU dH hlook
           refine⟨s',g3,g4.trans ?_⟩;cases hdst:o.dst with
           | none =>
             have hb:(ops[i]?).bind (·.dst)=none:=by rw[ho];exact hdst
             refine eO J J (fun t d ht=>?_);have ht':(G.filter (fun p=>ez ops k (L.setIfInBounds i true) p.1)).lookup t=some d:=ht;show(G.filter (fun p=>ez ops k L p.1)).lookup t=some d;rw[bZ] at ht' ⊢;split at ht'
             · rename_i hkp
               rw[if_pos,ht'];rw[gL] at hkp ⊢;intro j hj hd;have:=hkp j hj hd;rw[ck acK] at this;by_cases hji:j=i
               · subst hji;rw[hb] at hd;cases hd
               · rwa [if_neg hji] at this
             · cases ht'
           | some ti =>
             obtain⟨di,Lh⟩:=hset i ti hik (by rw[ho];exact hdst);simp only[Lh];exact hfinS ti di hdst Lh _ J
         · obtain ⟨ti, hdst⟩ := hdp (by simpa using hef)
           obtain⟨di,Lh⟩:=hset i ti hik (by rw[ho];exact hdst);obtain⟨hpure,hLL⟩:=hP L i o ti di hL hc hanc BF hik (by simpa using hef) ho hdst Lh;have hpure':Pure P w0 M0 o (sL L).ev (sL L).o di:=hpure.mono fun x e hx=>by
             cases x with
             | tmp t =>
               by_cases hcn:(looks ops o).contains t=true
               · simp only [fq, hcn, if_true] at hx
                 show(sL L).s.lookup t=some e;rw[hlook t (aa4.1 hcn)];exact hx
               · simp only[fq,hcn] at hx;cases hx
             | const v=>exact hx
             | func f=>exact hx
             | global g=>exact hx
           exact⟨_,lR hdst (hdn ti hdst) hpure',hfinS ti di hdst Lh _ hLL.symm⟩
       obtain⟨s',hst,himp⟩:=hstep;unfold wpOp;simp only[ho,Region.wanted,hgd,if_true];refine .inl (Oper.wp_mono (fun a' w' h'=>?_) (hst ac w _ hs));refine ih (L.setIfInBounds i true) a' w' (by simp[hL]) (fun j p hp zG x hx=>?_) (fun j hj=>?_) (himp a' w' h') ?_
       · rw [ck acK] at zG ⊢
         by_cases hji:j=i
         · subst hji
           obtain rfl:p=o:=by rw[ho] at hp;exact(Option.some.inj hp).symm
           split
           · rfl
           · exact hpre x hx
         · rw [if_neg hji] at zG
           split
           · rfl
           · exact hc j p hp zG x hx
       · rw[ck acK,if_neg acK];exact hk j hj
       · have hlt' := filter_lt (fun j => !L.getD j false) (fun j => !(L.setIfInBounds i true).getD j false) (fun x hx => by
           rw[ck acK] at hx;split at hx
           · cases hx
           · exact hx) (List.range ops.size) i (aaI.2 his) (by rw[BF];rfl) (by rw[ck acK,if_pos J];rfl)
         omega
 rintro ac w hs;have hw:bB w0.dr w.heap.size w { w with drawn:=w.drawn+1 }:=(Below.refl _ _).drew;have h0 := main ops.size (Array.replicate ops.size false) ac { w with drawn := w.drawn + 1 } (by simp) (fun i o ho hL => by
     have his:=(aaV.1 ho).1;simp[his] at hL) (fun j hj=>by
     rcases aaK j ops.size with h|h<;>simp[h]) (by
     refine eO (s:=⟨n,s0,o1⟩) (s':=sL (Array.replicate ops.size false)) J ?_ (fun t d ht=>hG t d ?_) ac _ (hs.grow hw)
     · show oL _ = o1
       refine hO1 _ fun j=>?_
       rcases aaK j ops.size with h|h<;>simp[h]
     · have ht' : (G.filter (fun p => ez ops k (Array.replicate ops.size false) p.1)).lookup t = some d := ht
       rw[bZ] at ht' ⊢;split at ht'
       · rename_i hkp
         rw[if_pos,ht'];rw[gL] at hkp ⊢;intro j hj hd;have:=hkp j hj hd;have hjs:j<ops.size:=acK;simp[hjs] at this
       · cases ht') (by
     have:=abx (fun j=>!(Array.replicate ops.size false).getD j false) (List.range ops.size);simpa using this)
 refine iT (l6 hm sS h0) fun e a' w' ⟨he,s',⟨s2,hi,hq⟩,h2⟩=>?_
 subst he;exact⟨s2,hq,hi a' w' h2⟩
end
variable{G X:List (Nat×SV)}
section
variable {P:Program} {w0:Fr}{M0:Nat→Prop}{ops:Array Oper}{Q:St→Prop}
def sf (G X:List (Nat×SV))(o:Oper):List (Nat×SV):=match o.dst with
 | some t=>(match G.lookup t with|some d=>ins t d X|none=>X)
 | none=>X
theorem gh {o:Oper}{T:TypeId}{t:Nat}{zs:List Value}(ho:o.op=.alloc T)(hd:o.dst=some t)(hn:Nat.blt t n=true)(hpt:Nat.blt t 1000000=true)(hnd:Nodup X=true)(hz:zeroOf P T=some zs)(hzs:zs.all Value.oneCell'=true)
  (S2:G.lookup t=some (.pbox t 0))(hs:∀t' d,X.lookup t'=some d→t'≠t→d.stays true t=true)(ho2:ins t (.box T (zs.map fun z=>.v .pl (.sc z))) (iH true t o1)=o2)(aa:∀b,M0 b→b<w0.w.heap.size) :
  ∃s',Step P w0 M0 o ⟨n,X,o1⟩ s'∧fF P w0 M0 s' ⟨n,sf G X o,o2⟩:=by
 refine⟨_,cM (s:=⟨n,X,o1⟩) ho hd hn hpt hnd hz hzs aa,?_⟩;have e:sf G X o=ins t (.pbox t 0) X:=by unfold sf;rw[hd];simp only[S2]
 rw[e];refine eO J ho2.symm fun t' d ht'=>?_
 rw[ax] at ht';show(ins t (SV.pbox t 0) _).lookup t'=some d;rw[ax];by_cases q:t'=t
 ·rw[if_pos q] at ht' ⊢;exact ht'
 ·rw[if_neg q] at ht' ⊢;exact iE (fun e=>e.stays true t) X t' d hnd ht' (hs t' d ht' q)
theorem AA {o:Oper}(h:o.dst=none):sf G X o=X:=by unfold sf;rw[h]
theorem b8 {o:Oper}(hd:o.dst=none)(h:∃s',Step P w0 M0 o ⟨n,X,o1⟩ s'∧fF P w0 M0 s' ⟨n,X,o2⟩):∃s',Step P w0 M0 o ⟨n,X,o1⟩ s'∧fF P w0 M0 s' ⟨n,sf G X o,o2⟩:=by rw[AA hd];exact h
end
open Go.MapKept Go.ChangeMaps
section
variable {P:Program} {w0:Fr}{M0:Nat→Prop}
variable {o:Oper} {ρ:Operand→Option SV}{ob:List (Nat×Ob)}{d:SV}{x y z:Operand}{T T' e:TypeId}{k b:Nat}{c:fW}{id off:Nat}{s:St}{t:Nat}{ks:List Value}{vs:List AV}{kt et:TypeId}{kd:TypeDesc}
end
end Go.Am
