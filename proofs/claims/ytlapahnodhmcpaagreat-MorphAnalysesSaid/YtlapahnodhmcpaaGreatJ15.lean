/-
  Part of the proof.
-/
import Derived.Test.YtlapahnodhmcpaaGreatJ0
import Derived.Test.YtlapahnodhmcpaaGreatJ12
import Derived.Test.YtlapahnodhmcpaaGreatJ14
import Derived.Laws.MakeOwn
import Derived.Laws.Pointers
set_option linter.unusedVariables false
set_option linter.unusedSectionVars false
set_option linter.unusedSimpArgs false
set_option maxRecDepth 100000
set_option maxHeartbeats 40000000
namespace Go.Am
open Go.RowKit Go.MapKept Go.ChangeMaps
noncomputable def ko (ks:List Value)(rows:List (List AV))(key:Value):List AV:=match dI ks key with
 | some j=>rows.getD j []
 | none=>[]
noncomputable def vK (ks:List Value)(key:Value)(l:dV):Option (Nat×dV):=(dI ks key).map fun j=>(j,l)
noncomputable def sR (ks:List Value)(rows:List (List AV))(key:Value)(xs:List AV):List (List AV):=match dI ks key with
 | some j=>rows.set j xs
 | none=>rows++[xs]
abbrev br (r:TypeId)(rows:List (List AV)):List Cell:=rows.map (Cell.row r)
section
variable {P:Program} {w0:Fr}{M0:Nat→Prop}{s:St}{o:Oper}{id t u:Nat}{e r T kt et:TypeId}{kd:TypeDesc}{ks:List Value}{rows:List (List AV)}{xs:List AV}{x y z:Operand}{E:Env}{a:Act}{w:World}{key:Value}
theorem LI {j:Nat}{c:Cell}(h:(br r rows)[j]?=some c):j<rows.length∧c=.row r (rows.getD j []):=by
 rw[Z6,Z4] at h
 obtain⟨q,hq,rfl⟩:=h
 refine⟨(aaf.1 hq).1,?_⟩
 rw[ZY,hq];rfl
theorem a8.T6 (h:a8 P w0 M0 E s a w)(hnd:Nodup s.s=true)(aa:∀b,M0 b→b<w0.w.heap.size)(hl:s.o.lookup id=some (.mp [] [])) :
  a8 P w0 M0 E (s.cD true id (.nmp [] [] none)) a w:=by
 obtain⟨es,clock,h1,h2,h3,h4,h5⟩:=h.wok.objs id _ hl
 refine h.cD true (fun q=>by cases q) hnd aa (fun i hi=>⟨rfl,rfl⟩) (.inr J) none ⟨rfl,rfl,rfl,Z1 _,fun _ _ _=>rfl⟩ (fun _=>Z1 _) (fun g hg=>by cases hg) (fun b hb=>.inl ⟨_,hl,?_⟩) (fun rep sv=>?_)
 ·rcases hb with hb|⟨j,c,q1,_⟩
  ·exact hb
  ·simp at q1
 ·exact⟨es,clock,h1,h2,h3,rfl,fun j hj=>by simp at hj,⟨fun j c hc=>by simp at hc,fun i j ci cj b hi=>by simp at hi,(fun j u hu=>by cases hu),(fun j u hu=>by cases hu)⟩,fun b hb=>by obtain⟨j,c,q1,_⟩:=hb;simp at q1⟩
theorem LJ (b j:Nat){eb:TypeId}{bs bs':List SV}(aa:∀b,M0 b→b<w0.w.heap.size)(hnd:Nodup s.s=true)(hb0:s.o.lookup b=some (.box eb bs))(hj:bs[j]?=some (.omap id))(hl:s.o.lookup id=some (.mp [] []))
  (hb:(s.cD true id (.nmp [] [] none)).o.lookup b=some (.box eb bs'))(hbl:bs'.length=bs.length)
  (hnd':Nodup (s.cD true id (.nmp [] [] none)).s=true):fJ P w0 M0 s ((s.cD true id (.nmp [] [] none)).cD false b (.box eb ((c3 b bs').set j (.nst id)))):=by
 rintro a w ⟨E,hs⟩
 have h1:=hs.T6 hnd aa hl
 have hbi:b≠id:=fun q=>by rw[q,hl] at hb0;cases hb0
 obtain⟨vals0,q1,q2,q3,q4⟩:=hs.wok.objs b _ hb0
 have hv:vals0.getD j undef=.map (some (E.blk id)):=(q4 j _ hj).2.2 [] [] hl
 refine⟨E,h1.cD false (fun _=>⟨rfl,.inr (.inl ⟨eb,bs',_,hb,rfl⟩)⟩) hnd' aa (fun i hi=>⟨rfl,rfl⟩) (.inr J) none ⟨rfl,rfl,rfl,Z1 _,fun _ _ _=>rfl⟩ (fun _=>Z1 _) (fun g hg=>by cases hg) (fun b' hb'=>.inl ⟨_,hb,hb'⟩) (fun rep sv=>?_)⟩
 obtain⟨vals,g1,g2,g3,g4⟩:=h1.wok.objs b _ hb
 have hvv:vals=vals0:=by
  rw[q1] at g1
  simp only[Option.some.injEq,Obj.cells.injEq] at g1
  have:=g1.1
  simpa using this.symm
 subst hvv
 refine⟨vals,g1,g2,by simpa[c3] using g3,fun i d hd=>?_⟩
 by_cases hi:j=i
 ·subst hi
  have hjl:j<bs'.length:=by rw[hbl];exact(aaf.1 hj).1
  rw[abj (by simpa[c3] using hjl)] at hd
  simp only[Option.some.injEq] at hd
  subst hd
  have h0:=q4 j _ hj
  refine⟨rfl,h0.2.1,fun e1 c1 l1 hh=>?_,fun k1 c1 l1 hh=>hv⟩
  exfalso
  rw[show(ins b (Ob.box eb ((c3 b bs').set j (.nst id))) (iE false b (s.cD true id (.nmp [] [] none)).o)).lookup id=some (KS false b (.nmp [] [] none)) from by
   rw[ax,if_neg (aaX hbi),cu]
   show((ins id _ _).lookup id).map _=_
   rw[ax,if_pos rfl];rfl] at hh
  cases hh
 ·rw[abo hi] at hd
  simp only[c3,Z6,Z4] at hd
  obtain⟨d0,hd0,rfl⟩:=hd
  have:=g4 i d0 hd0
  split
  ·exact⟨this.1,this.2.1,sv _ _ this.2.2 ‹_›⟩
  ·exact⟨rfl,this.2.1,trivial⟩
theorem a8.T7 (h:a8 P w0 M0 E s a w)(hnd:Nodup s.s=true)(aa:∀b,M0 b→b<w0.w.heap.size)(hl:s.o.lookup id=some (.nmp ks (br r rows) none))(hu:u≠id){v:Value}
   (hv:match dI ks key with|some j=>v=E.sub id j|none=>v=.slice none 0 0) :
   ∃E':Env,E'.cur u=v∧a8 P w0 M0 E' { n:=s.n,s:=s.s.filter (fun p=>p.2.stays true u),o:=ins u (.arr r (ko ks rows key)) (ins id (.nmp ks (br r rows) (vK ks key (.arr u))) (iE true u s.o)) } a w:=by
 obtain⟨es,clock,g1,g2,g3,g3',g3'',g4,g5⟩:=h.wok.objs id _ hl
 have hkl:ks.length=rows.length:=by rw[g3'];simp
 obtain⟨E',e2,e1,e3,e4⟩:∃E':Env,E'.cur u=v∧(∀i,i≠u→E'.cur i=E.cur i)∧E'.blk=E.blk∧E'.sub=E.sub:=⟨{ E with cur:=fun i=>if i=u then v else E.cur i },if_pos rfl,fun i hi=>if_neg hi,rfl,rfl⟩
 refine⟨E',e2,?_⟩
 have hN:∀i q,(if i=u then some (some (Ob.arr r (ko ks rows key))) else if i=id then some (some (.nmp ks (br r rows) (vK ks key (.arr u)))) else none:Option (Option Ob))=some q→(i=u∧q=some (.arr r (ko ks rows key)))∨(i=id∧q=some (.nmp ks (br r rows) (vK ks key (.arr u)))):=fun i q hq=>by
   by_cases h1:i=u
   · rw[if_pos h1] at hq;injection hq with hq;exact .inl ⟨h1,hq.symm⟩
   · rw [if_neg h1] at hq
     by_cases h2:i=id
     · rw[if_pos h2] at hq;injection hq with hq;exact .inr ⟨h2,hq.symm⟩
     · rw[if_neg h2] at hq;cases hq
 have hsubs:∀f b,fK f b (br r rows) (vK ks key (.arr u))→fK f b (br r rows) none:=fun f b ⟨i,c,q1,q2,q3⟩=>⟨i,c,q1,by simp,q3⟩
 -- the part: at place j, or fresh and empty
 have hpart:(∃j,dI ks key=some j∧j<rows.length∧v=E.sub id j∧ko ks rows key=rows.getD j [])∨(dI ks key=none∧v=.slice none 0 0∧ko ks rows key=[]):=by
   unfold ko
   cases hp:dI ks key with
   | none=>rw[hp] at hv;exact .inr ⟨rfl,hv,rfl⟩
   | some j =>
     rw[hp] at hv
     refine .inl ⟨j,rfl,?_,hv,rfl⟩
     have:=(aaf.1 (eN hp)).1
     omega
 have hcj:∀j,j<rows.length→(br r rows)[j]?=some (.row r (rows.getD j [])):=fun j hj=>by
   rw[Z6,Z3 hj,ZY,Z3 hj];rfl
 refine a8.wG (E':=E') (SV.stays true u) (fun i=>if i=u then some (some (.arr r (ko ks rows key))) else if i=id then some (some (.nmp ks (br r rows) (vK ks key (.arr u)))) else none) _ (fun i=>?_) (fun d=>rfl) (fun i ob hq hx=>?_) (fun i hq=>?_) h hnd aa (fun i hq=>?_) (fun x hx=>by rw[e3]) none ⟨rfl,rfl,rfl,Z1 _,fun _ _ _=>rfl⟩ (fun _=>Z1 _) (fun g hg=>by cases hg) (fun i ob b hq hb=>.inl ?_) (fun i ob i' ob' b hq hq' hb hb'=>?_) (fun rep sv lents i ob hq=>?_)
 · rw [ax]
   by_cases h1:i=u
   · rw[if_pos h1,if_pos h1]
   · rw [if_neg h1, if_neg h1, ax]
     by_cases h2:i=id
     · rw[if_pos h2,if_pos h2]
     · rw[if_neg h2,if_neg h2];exact cu true u i s.o
 · rcases hN i _ hq with ⟨rfl, _⟩ | ⟨rfl, q⟩
   · obtain ⟨d, h1, h2⟩ := hx
     rw[gV h1] at h2;cases h2
   · injection q with q; subst q
     exact⟨e1 i (aaX hu),by rw[e3],.inr (.inr (.inr (.inr ⟨ks,_,none,ks,_,_,hl,rfl⟩)))⟩
 · rcases hN i _ hq with⟨_,q⟩|⟨_,q⟩<;>cases q
 · refine ⟨e1 i fun q => ?_, by rw [e3], by rw [e4]⟩
   rw[if_pos q] at hq;cases hq
 · refine ⟨id, _, by rw [if_neg (aaX hu), if_pos J]; simp, hl, ?_⟩
   rcases hN i _ hq with⟨rfl,q⟩|⟨rfl,q⟩
   · injection q with q; subst q
     have hb:(E'.cur i).ownBlock=some b:=hb
     rw[e2] at hb
     rcases hpart with⟨j,p1,p2,p3,p4⟩|⟨p1,p2,p3⟩
     · rw [p3] at hb
       exact .inr ⟨j,_,hcj j p2,by simp,hb⟩
     · rw[p2] at hb;cases hb
   · injection q with q; subst q
     rcases hb with hb|hb
     · rw[e3] at hb;exact .inl hb
     · rw[e4] at hb;exact .inr (hsubs _ _ hb)
 · have key2 : ∀ b, v.ownBlock = some b → bE E' id b (.nmp ks (br r rows) (vK ks key (.arr u))) → False := fun b h1 h2 => by
     rcases hpart with⟨j,p1,p2,p3,p4⟩|⟨p1,p2,p3⟩
     · rw [p3] at h1
       rcases h2 with h2|⟨i2,c2,q1,q2,q3⟩
       · rw [e3] at h2
         exact g5 b ⟨j,_,hcj j p2,by simp,h1⟩ h2
       · rw [e4] at q3
         have:=g4.apart i2 j c2 _ b q1 (hcj j p2) (by simp) (by simp) q3 h1
         subst this
         exact q2 (by unfold vK;rw[p1];rfl)
     · rw[p2] at h1;cases h1
   rcases hN i _ hq with⟨rfl,q⟩|⟨rfl,q⟩
   · injection q with q; subst q
     rcases hN i' _ hq' with⟨rfl,q'⟩|⟨rfl,q'⟩
     · rfl
     · injection q' with q'; subst q'
       exact(key2 b (by rw[←e2];exact hb) hb').elim
   · injection q with q; subst q
     rcases hN i' _ hq' with⟨rfl,q'⟩|⟨rfl,q'⟩
     · injection q' with q'; subst q'
       exact(key2 b (by rw[←e2];exact hb') hb).elim
     · rfl
 · rcases hN i _ hq with ⟨rfl, q⟩ | ⟨rfl, q⟩
   · injection q with q; subst q
     rcases hpart with⟨j,p1,p2,p3,p4⟩|⟨p1,p2,p3⟩
     · have hr : sm P w0 M0 w E s.o r (ko ks rows key) (E.sub id j) := by rw [p4]; exact g4.ok j _ (hcj j p2) (by simp)
       obtain⟨vals',h1,h2,h3⟩:=hr
       exact⟨vals',by rw[e2,p3];exact h1,h2,fun k d hd=>⟨(h3 k d hd).1,rep .pl _ _ (h3 k d hd).2 (by simp)⟩⟩
     · refine⟨[],⟨⟨by rw[p3];simp,.inl ⟨by rw[e2,p2],by rw[p3];rfl⟩⟩,(fun b hb=>by rw[e2,p2] at hb;cases hb)⟩,(fun x hx=>by rw[p3] at hx;cases hx),fun j d hd=>by rw[p3] at hd;simp[flat] at hd⟩
   · injection q with q; subst q
     refine⟨es,clock,by rw[e3];exact g1,by rw[e3];exact g2,g3,g3',by rw[e4];exact g3'',⟨fun k c hk hn=>by rw[e4];exact(g4.ok k c hk (by simp)).go (fun _ _=>rfl) (fun _ _ hf=>hf) (fun v d hr=>rep .pl v d hr (by simp)),fun i1 i2 c1 c2 b h1 h2 _ _ h5 h6=>by rw[e4] at h5 h6;exact g4.apart i1 i2 c1 c2 b h1 h2 (by simp) (by simp) h5 h6,fun k u' hk=>?_,fun k u' hk=>?_⟩,fun b hb=>by rw[e3];rw[e4] at hb;exact g5 b (hsubs _ _ hb)⟩
     · unfold vK at hk
       rw[Z4] at hk
       obtain⟨j,hj,hk⟩:=hk
       cases hk
       rcases hpart with⟨j',p1,p2,p3,p4⟩|⟨p1,p2,p3⟩
       · rw [hj] at p1; cases p1
         rw[e4,e2,p3]
       · rw[hj] at p1;cases p1
     · unfold vK at hk
       rw[Z4] at hk
       obtain⟨j,hj,hk⟩:=hk
       cases hk
theorem Fy (ho:o.op=.lookup T x y false)(hd:o.dst=some t)(hn:Nat.blt t s.n=true)(hne:Nat.beq t id=false)(hnd:Nodup s.s=true)(hT:P.underlying T=some (.map kt et))(hkd:P.underlying kt=some kd)(hz:(P.info? et).bind (·.zero)=some (.slice none 0 0))
   (hx:s.ev x=some (.nst id))(hl:s.o.lookup id=some (.nmp ks (br r rows) none))(hy:bj s.ev y=some key)(hk:IsKey kd key)(hks:∀u∈ks,IsKey kd u)(aa:∀b,M0 b→b<w0.w.heap.size) :
   Step P w0 M0 o s (({ n:=s.n,s:=s.s.filter (fun p=>p.2.stays true t),o:=ins t (.arr r (ko ks rows key)) (ins id (.nmp ks (br r rows) (vK ks key (.arr t))) (iE true t s.o)) }:St).put t (.own t)):=by
 rintro a w Q ⟨E,hs⟩
 have hxv:a.eval x=.map (some (E.blk id)):=(hs.ev hx).2 ks _ none hl
 have hyv:a.eval y=key:=ck (ρ:=s.ev) (x:=y) (ob:=s.o) (ev:=a.eval) (fun x e hx=>hs.ev hx) hy
 obtain⟨es,clock,g1,g2,g3,g3',g3'',g4,g5⟩:=hs.wok.objs id _ hl
 have hes:∀u∈es.toList,IsKey kd u.key:=fun u hu=>hks _ (by rw[←g3];exact abT hu)
 have hf:=jO hk es.toList 0 hes
 rw[g3] at hf
 have htid:t≠id:=fun q=>by rw[q,abJ] at hne;cases hne
 have hrun:∃v,(execOp a.eval o).run P w=.ok (.value v) w∧(match dI ks key with|some j=>v=E.sub id j|none=>v=.slice none 0 0):=by
   cases hi:P.info? et with
   | none=>rw[hi] at hz;cases hz
   | some it =>
     rw[hi] at hz
     simp only[abu] at hz
     cases hp:dI ks key with
     | none =>
       rw[hp] at hf
       refine⟨.slice none 0 0,?_,rfl⟩
       have:(Instr.lookup T (a.eval x) (a.eval y) false).run P w=.ok (.slice none 0 0) w:=by
         rw[hxv,hyv]
         simp[Instr.lookup,run_underlying hT,MapKept.run_getObj_map g1,run_checkKey hkd hk,run_findKey hkd hf,Result.andThen,zeroValue,typeInfo,hi,hz]
       simp[execOp,ho,this,Result.andThen]
     | some j =>
       rw[hp] at hf
       have hj:j<(br r rows).length:=by rw[←g3'];exact(aaf.1 (eN hp)).1
       refine⟨E.sub id j,?_,rfl⟩
       have:(Instr.lookup T (a.eval x) (a.eval y) false).run P w=.ok (E.sub id j) w:=by
         rw[hxv,hyv,←g3'' j hj]
         simp[Instr.lookup,run_underlying hT,MapKept.run_getObj_map g1,run_checkKey hkd hk,run_findKey hkd hf,Result.andThen]
       simp[execOp,ho,this,Result.andThen]
 obtain⟨v,hexec,hv⟩:=hrun
 obtain⟨E',e2,hE⟩:=hs.T7 (u:=t) hnd aa hl htid hv
 unfold Oper.wp
 rw[hexec]
 simp only[Oper.upon,hd]
 refine⟨E',a8.put hE (by simpa using hn) fun e' xs' _=>e2.symm⟩
theorem I4 (ho:o.op=.mapUpdate T x y z) (hd:o.dst=none) (hnd:Nodup s.s=true) (hT:P.underlying T=some (.map kt et)) (hkd:P.underlying kt=some kd)
   (hx:s.ev x=some (.nst id))(hl:s.o.lookup id=some (.nmp ks (br r rows) (vK ks key .no)))(hy:bj s.ev y=some key)(hz:s.ev z=some (.own u))(hlu:s.o.lookup u=some (.arr r xs))(hk:IsKey kd key)(hks:∀u∈ks,IsKey kd u)(aa:∀b,M0 b→b<w0.w.heap.size) :
   Step P w0 M0 o s { n:=s.n,s:=s.s.filter (fun p=>p.2.stays true u),o:=ins id (.nmp (fL ks key) (br r (sR ks rows key xs)) none) (gY u (iE true u s.o)) }:=by
 rintro a w Q ⟨E,hs⟩
 have hxv:a.eval x=.map (some (E.blk id)):=(hs.ev hx).2 ks _ _ hl
 have hyv:a.eval y=key:=ck (ρ:=s.ev) (x:=y) (ob:=s.o) (ev:=a.eval) (fun x e hx=>hs.ev hx) hy
 have hzv:a.eval z=E.cur u:=hs.ev hz r xs hlu
 have hu:u≠id:=fun q=>by rw[q,hl] at hlu;cases hlu
 obtain⟨es,clock,g1,g2,g3,g3',g3'',g4,g5⟩:=hs.wok.objs id _ hl
 have hkl:ks.length=rows.length:=by rw[g3'];simp
 have hes:∀u∈es.toList,IsKey kd u.key:=fun u hu=>hks _ (by rw[←g3];exact abT hu)
 have hf:=jO hk es.toList 0 hes
 rw[g3] at hf
 have hvl:(es.toList.map (·.val)).length=rows.length:=by rw[←hkl,←g3];simp
 have key3:∃(es':Array MapEntry)(clock' jn:Nat),(Instr.mapUpdate T (.map (some (E.blk id))) key (a.eval z)).run P w=.ok () (setBlock w (E.blk id) (.map es' clock'))∧es'.toList.map (·.key)=fL ks key∧(fL ks key).length=(sR ks rows key xs).length ∧
     (∀i,i≠jn→(vK ks key dV.no).map (·.1)≠some i)∧(∀i,i<(sR ks rows key xs).length→(i=jn∧(es'.toList.map (·.val)).getD i undef=E.cur u∧(sR ks rows key xs).getD i []=xs)∨(i≠jn∧i<rows.length∧(vK ks key dV.no).map (·.1)≠some i∧(es'.toList.map (·.val)).getD i undef=E.sub id i∧(sR ks rows key xs).getD i []=rows.getD i [])):=by
   unfold fL sR vK
   cases hp:dI ks key with
   | none =>
     rw[hp] at hf;simp[Option.map] at hf
     refine⟨es.push ⟨key,a.eval z,clock⟩,clock+1,rows.length,?_,by simp[g3],by simp[hkl],fun i hi=>by simp,fun i hi=>?_⟩
     · simp[Instr.mapUpdate,run_underlying hT,MapKept.run_getObj_map g1,run_checkKey hkd hk,run_findKey hkd hf,MapKept.run_setObj_map _ g1,Result.andThen,setBlock]
     · simp only [Array.toList_push, Z8, ab5]
       rw[ZY,ZY]
       rcases aaq i rows.length with hj|hj
       · rw [aan ace, aan ace, ← ZY, ← ZY]
         exact .inr ⟨ace,hj,by simp,g3'' i (by simpa using hj),rfl⟩
       · have hi' : i = rows.length := by rw [aab] at hi; simp at hi; omega
         subst hi'
         rw[aal ace,hvl,abQ,aal (Z1 _),abQ]
         exact .inl ⟨rfl,by simpa using hzv,rfl⟩
   | some j =>
     rw[hp] at hf;simp[Option.map] at hf
     have hki:=eN hp
     have hjl:j<rows.length:=by rw[←hkl];exact(aaf.1 hki).1
     rw[←g3,Z6,Z4] at hki
     obtain⟨e0,he0,hek⟩:=hki
     rw[aaw] at he0
     have hkeys:(es.modify j fun e=>{ e with key:=key,val:=a.eval z }).toList.map (·.key)=ks:=by
       rw[modify_keys j _ (fun e he=>by rw[he0] at he;simp only[Option.some.injEq] at he;subst he;exact hek.symm),g3]
     refine⟨es.modify j fun e=>{ e with key:=key,val:=a.eval z },clock,j,?_,hkeys,by simp[hkl],fun i hi=>by simpa using aaX hi,fun i hi=>?_⟩
     · have hst := run_keyThatStays (P := P) (w := w) hk
       simp[Instr.mapUpdate,run_underlying hT,MapKept.run_getObj_map g1,run_checkKey hkd hk,run_findKey hkd hf,MapKept.run_setObj_map _ g1,Result.andThen,setBlock,he0,hek,hst]
     · rw [abC] at hi
       rw[ZY,Z6,aaw,Array.getElem?_modify,ZY (l:=rows.set j xs),List.getElem?_set]
       by_cases hij:j=i
       · subst hij
         rw[if_pos rfl,he0,if_pos rfl,if_pos hjl]
         exact .inl ⟨rfl,by simpa using hzv,rfl⟩
       · rw [if_neg hij, if_neg hij, ← aaw, ← Z6, ← ZY, ← ZY]
         exact .inr ⟨aaX hij,hi,by simpa using hij,g3'' i (by simpa using hi),rfl⟩
 obtain⟨es',clock',jn,hrun,hkeys,hlen,hjn,hcell⟩:=key3
 unfold Oper.wp
 have hexec:(execOp a.eval o).run P w=.ok .skip (setBlock w (E.blk id) (.map es' clock')):=by
   simp[execOp,ho,hxv,hyv,hrun,Result.andThen]
 rw[hexec]
 simp only[Oper.upon,hd,Act.put]
 have hgrow:w.grownBy (setBlock w (E.blk id) (.map es' clock')) (some (E.blk id)):=⟨rfl,rfl,rfl,by simp[setBlock],fun i _ hi=>heap_setBlock_other g1 _ (fun e=>hi (by rw[e]))⟩
 obtain⟨E',e1,e2,e3,e4⟩:∃E':Env,E'.cur=E.cur∧E'.blk=E.blk∧(∀i,E'.sub id i=(es'.toList.map (·.val)).getD i undef)∧(∀i,i≠id→E'.sub i=E.sub i) :=
   ⟨{ E with sub:=fun i=>if i=id then fun k=>(es'.toList.map (·.val)).getD k undef else E.sub i },rfl,rfl,fun i=>by simp,fun i hi=>if_neg hi⟩
 generalize hrows:sR ks rows key xs=rows' at *
 have hN:∀i q,(if i=u then some none else if i=id then some (some (Ob.nmp (fL ks key) (br r rows') none)) else none:Option (Option Ob))=some q→(i=u∧q=none)∨(i=id∧q=some (.nmp (fL ks key) (br r rows') none)):=fun i q hq=>by
   by_cases h1:i=u
   · rw[if_pos h1] at hq;injection hq with hq;exact .inl ⟨h1,hq.symm⟩
   · rw [if_neg h1] at hq
     by_cases h2:i=id
     · rw[if_pos h2] at hq;injection hq with hq;exact .inr ⟨h2,hq.symm⟩
     · rw[if_neg h2] at hq;cases hq
 -- the parts of the map behind it
 have part:∀(i:Nat) c,(br r rows')[i]?=some c→(i=jn∧E'.sub id i=E.cur u∧c=.row r xs)∨(i≠jn∧(vK ks key dV.no).map (·.1)≠some i∧E'.sub id i=E.sub id i∧(br r rows)[i]?=some c):=fun i c hc=>by
   obtain⟨h1,h2⟩:=LI hc
   rcases hcell i h1 with⟨q1,q2,q3⟩|⟨q1,q2,q3,q4,q5⟩
   · exact .inl ⟨q1,by rw[e3];exact q2,by rw[h2,q3]⟩
   · refine .inr ⟨q1, q3, by rw [e3]; exact q4, ?_⟩
     rw[h2,q5,Z6,Z3 q2,ZY,Z3 q2];rfl
 have hsub:∀b,fK (E'.sub id) b (br r rows') none→bE E u b (.arr r xs)∨fK (E.sub id) b (br r rows) (vK ks key .no):=fun b ⟨i,c,q1,_,q3⟩=>by
   rcases part i c q1 with⟨p1,p2,p3⟩|⟨p1,p2,p3,p4⟩
   · subst p3
     refine .inl ?_
     show(E.cur u).ownBlock=some b
     rw[←p2];exact q3
   · rw [p3] at q3
     exact .inr ⟨i,c,p4,p2,q3⟩
 have apart:∀b,bE E u b (.arr r xs)→bE E id b (.nmp ks (br r rows) (vK ks key .no))→False:=fun b q1 q2=>hu (hs.wok.disj u _ id _ b hlu hl q1 q2)
 refine⟨E',a8.wG (E':=E') (SV.stays true u) (fun i=>if i=u then some none else if i=id then some (some (.nmp (fL ks key) (br r rows') none)) else none) _ (fun i=>?_) (fun d=>rfl) (fun i ob hq hx=>?_) (fun i hq=>⟨by rw[e1],by rw[e2]⟩) hs hnd aa (fun i hq=>⟨by rw[e1],by rw[e2],e4 i fun q=>?_⟩) (fun x hx=>by rw[e2]) (some (E.blk id)) hgrow (fun _=>Z1 _) (fun g hg=>?_) (fun i ob b hq hb=>.inl ?_) (fun i ob i' ob' b hq hq' hb hb'=>?_) (fun rep sv lents i ob hq=>?_)⟩
 · rw [ax]
   by_cases h2:i=id
   · rw[if_pos h2,if_neg (fun q=>hu (q.symm.trans h2)),if_pos h2]
   · rw [if_neg h2, c8]
     by_cases h1:i=u
     · rw[if_pos h1,if_pos h1]
     · rw[if_neg h1,if_neg h1,if_neg h2];exact cu true u i s.o
 · rcases hN i _ hq with ⟨_, q⟩ | ⟨rfl, q⟩
   · cases q
   · injection q with q; subst q
     exact⟨by rw[e1],by rw[e2],.inr (.inr (.inr (.inr ⟨ks,_,_,_,_,_,hl,rfl⟩)))⟩
 · subst q
   rw[if_neg (aaX hu),if_pos rfl] at hq;cases hq
 · injection hg with hg; subst hg
   exact⟨id,_,by rw[if_neg (aaX hu),if_pos J];simp,hl,.inl J⟩
 · rcases hN i _ hq with ⟨_, q⟩ | ⟨rfl, q⟩
   · cases q
   · injection q with q; subst q
     rcases hb with hb|hb
     · rw [e2] at hb
       exact⟨i,_,by rw[if_neg (aaX hu),if_pos J];simp,hl,.inl hb⟩
     · rcases hsub b hb with q1 | q1
       · exact⟨u,_,by rw[if_pos J];simp,hlu,q1⟩
       · exact⟨i,_,by rw[if_neg (aaX hu),if_pos J];simp,hl,.inr q1⟩
 · rcases hN i _ hq with ⟨_, q⟩ | ⟨rfl, _⟩
   · cases q
   · rcases hN i' _ hq' with ⟨_, q⟩ | ⟨rfl, _⟩
     · cases q
     · rfl
 · rcases hN i _ hq with ⟨_, q⟩ | ⟨rfl, q⟩
   · cases q
   · injection q with q; subst q
     obtain⟨vals',h1,h2,h3⟩:=hs.wok.objs u _ hlu
     have hub:∀b,(E.cur u).ownBlock=some b→b≠E.blk i:=fun b q e=>apart b q (.inl e.symm)
     refine⟨es',clock',by rw[e2];exact heap_setBlock_same g1 _,by rw[e2];exact g2,hkeys,by rw[hlen];simp,fun j hj=>(e3 j).symm,⟨fun k c hk' _=>?_,fun i1 i2 c1 c2 b q1 q2 _ _ q5 q6=>?_,(fun k u' hk=>by cases hk),(fun k u' hk=>by cases hk)⟩,fun b hb=>?_⟩
     · rcases part k c hk' with ⟨p1, p2, p3⟩ | ⟨p1, p2, p3, p4⟩
       · subst p3
         rw[p2]
         refine⟨vals',⟨h1.1.kept hgrow ?_,h1.2⟩,h2,fun k d hd=>⟨(h3 k d hd).1,rep .pl _ _ (h3 k d hd).2 (by simp)⟩⟩
         cases hb:(E.cur u).ownBlock with
         | none=>exact .inl rfl
         | some b=>exact .inr fun q=>hub b hb (by injection q)
       · rw [p3]
         exact(g4.ok k c p4 p2).go (fun b hb=>hgrow.block b ((g4.ok k c p4 p2).range hb).2 fun q=>g5 b ⟨k,c,p4,p2,hb⟩ (by injection q with q;exact q.symm)) (fun _ _ hf=>hf) (fun v d hr=>rep .pl v d hr (by simp))
     · rcases part i1 c1 q1 with ⟨p1, p2, p3⟩ | ⟨p1, p2, p3, p4⟩
       · rcases part i2 c2 q2 with ⟨p5, p6, p7⟩ | ⟨p5, p6, p7, p8⟩
         · rw[p1,p5]
         · subst p3
           rw[p2] at q5;rw[p7] at q6
           exact(apart b q5 (.inr ⟨i2,c2,p8,p6,q6⟩)).elim
       · rcases part i2 c2 q2 with ⟨p5, p6, p7⟩ | ⟨p5, p6, p7, p8⟩
         · subst p7
           rw[p6] at q6;rw[p3] at q5
           exact(apart b q6 (.inr ⟨i1,c1,p4,p2,q5⟩)).elim
         · rw [p3] at q5; rw [p7] at q6
           exact g4.apart i1 i2 c1 c2 b p4 p8 p2 p6 q5 q6
     · rw [e2]
       rcases hsub b hb with q1|q1
       · exact fun q=>apart b q1 (.inl q)
       · exact g5 b q1
end
section
variable {P:Program} {w0:Fr}{M0:Nat→Prop}{G X:List (Nat×SV)}{o1 o2:List (Nat×Ob)}{n t:Nat}{o:Oper}
theorem Da {cx:Operand}{xs:Array Operand}{ats:Array TypeId}{f:FuncId}{dc:SV}{caps svs args:List SV}{r:SV}{oc oc':List (Nat×Ob)}(ρ:List (Nat×Nat))(ho:o.op=.call { callee:=.value cx,args:=xs,argTypes:=ats })(hd:o.dst=some t)(hn:Nat.blt t n=true)(hnd:Nodup X=true)
  (hc:(⟨n,X,o1⟩:St).ev cx=some dc)(hcc:np dc=some (f,caps))(ha:OB ⟨n,X,o1⟩ xs.toList=some svs)(h:lg P f args oc r oc')(hargs:k7 ⟨n,X,o1⟩ ρ (cT ρ oc) (svs++caps) args)(hob:oa ⟨n,X,o1⟩ ρ oc)(hinj:jk (cT ρ oc)=true)(hsame:oc.map (fun p=>(p.1,p.2.kind))=oc'.map (fun p=>(p.1,p.2.kind)))
  (hbig:oc.all (fun p=>Nat.beq p.2.kind 0||Nat.ble 1000000 p.1)=true)(hpl:oc'.all (fun p=>p.2.plain (oc'.map (·.1)))=true)(hr:r.plain (oc'.map (·.1))=true)
  (dO:∀t d,X.lookup t=some d→G.lookup t=some d)(Sd:G.lookup t=some (r.kc ρ))
  (ho2:(o1.map fun p=>(p.1,((yU ρ oc').lookup p.1).getD (p.2.after (cT ρ oc'))))=o2)(hok:T5 (fun d=>d.safe (cT ρ oc')) n t o2 G=true)(aa:∀b,M0 b→b<w0.w.heap.size) :
  ∃s',Step P w0 M0 o ⟨n,X,o1⟩ s'∧fJ P w0 M0 s' ⟨n,rI G X o,o2⟩:=by
 refine⟨_,aO (s:=⟨n,X,o1⟩) ρ ho hd hn hnd hc hcc ha h hargs hob hinj hsame hbig hpl hr aa,?_⟩
 rw[Bl hd Sd]
 exact Bm (p:=fun d=>d.safe (cT ρ oc')) hnd dO hok J ho2 fun x=>ax t x _ _
variable {T kt et r:TypeId}{kd:TypeDesc}{ks:List Value}{rows:List (List AV)}{key:Value}{x y z:Operand}{id u:Nat}{xs:List AV}
theorem Db (ho:o.op=.lookup T x y false)(hd:o.dst=some t)(hn:Nat.blt t n=true)(hne:Nat.beq t id=false)(hnd:Nodup X=true)(hT:P.underlying T=some (.map kt et))(hkd:P.underlying kt=some kd)(hz:(P.info? et).bind (·.zero)=some (.slice none 0 0))
  (hx:(⟨n,X,o1⟩:St).ev x=some (.nst id))(hl:o1.lookup id=some (.nmp ks (br r rows) none))(hy:bj (⟨n,X,o1⟩:St).ev y=some key)(hk:IsKey kd key)(hks:∀u∈ks,IsKey kd u)
  (dO:∀t d,X.lookup t=some d→G.lookup t=some d)(Sd:G.lookup t=some (.own t))
  (ho2:ins t (.arr r (ko ks rows key)) (ins id (.nmp ks (br r rows) (vK ks key (.arr t))) (iE true t o1))=o2)(hok:T5 (fun d=>d.stays true t) n t o2 G=true)(aa:∀b,M0 b→b<w0.w.heap.size) :
  ∃s',Step P w0 M0 o ⟨n,X,o1⟩ s'∧fJ P w0 M0 s' ⟨n,rI G X o,o2⟩:=by
 refine⟨_,Fy (s:=⟨n,X,o1⟩) ho hd hn hne hnd hT hkd hz hx hl hy hk hks aa,?_⟩
 rw[Bl hd Sd]
 exact Bm (p:=fun d=>d.stays true t) hnd dO hok J ho2 fun x=>ax t x _ _
theorem oi {ρ:Operand→Option SV}{ob:List (Nat×Ob)}{i:Nat}{caps:List qg}{d:AV}(ho:o.op=.extract x i)(hx:ρ x=some (.hid OW caps))(hc:caps[i]?=some (.pl d)):Pure P w0 M0 o ρ ob (.v .pl d):=zI ho hx hc
theorem xg {ρ:Operand→Option SV}{ob:List (Nat×Ob)}{i:Nat}{caps:List qg}(ho:o.op=.extract x i)(hx:ρ x=some (.hid OW caps))(hc:caps[i]?=some (.ow id)):Pure P w0 M0 o ρ ob (.own id):=zI ho hx hc
theorem LK {p:SV→Bool}{s:St}(hnd:Nodup X=true)(dO:∀t d,X.lookup t=some d→G.lookup t=some d)(hok:(G.all fun q=>p q.2||(Nat.blt q.1 n&&q.2.gone o2))=true)(hn:s.n=n)(ho:s.o=o2)
  (hs:∀u,s.s.lookup u=(X.filter fun q=>p q.2).lookup u):fJ P w0 M0 s ⟨n,X,o2⟩:=by
 refine C9 hn.symm ho.symm fun u d hu=>?_
 rw[hs u]
 have h:=aam.1 hok _ (dD (dO u d hu))
 simp only[aaO,aae] at h
 rcases h with h|⟨h1,h2⟩
 ·exact .inl (iz p X u d hnd hu h)
 ·exact .inr ⟨by rw[hn];simpa using h1,by rw[ho];exact h2⟩
theorem Fz (ho:o.op=.mapUpdate T x y z)(hd:o.dst=none)(hnd:Nodup X=true)(hT:P.underlying T=some (.map kt et))(hkd:P.underlying kt=some kd)
  (hx:(⟨n,X,o1⟩:St).ev x=some (.nst id))(hl:o1.lookup id=some (.nmp ks (br r rows) (vK ks key .no)))(hy:bj (⟨n,X,o1⟩:St).ev y=some key)(hz:(⟨n,X,o1⟩:St).ev z=some (.own u))(hlu:o1.lookup u=some (.arr r xs))(hk:IsKey kd key)(hks:∀u∈ks,IsKey kd u)
  (dO:∀t d,X.lookup t=some d→G.lookup t=some d)
  (ho2:ins id (.nmp (fL ks key) (br r (sR ks rows key xs)) none) (gY u (iE true u o1))=o2)(hok:(G.all fun q=>q.2.stays true u||(Nat.blt q.1 n&&q.2.gone o2))=true)(aa:∀b,M0 b→b<w0.w.heap.size) :
  ∃s',Step P w0 M0 o ⟨n,X,o1⟩ s'∧fJ P w0 M0 s' ⟨n,rI G X o,o2⟩:=by
 refine⟨_,I4 (s:=⟨n,X,o1⟩) ho hd hnd hT hkd hx hl hy hz hlu hk hks aa,?_⟩
 rw[zK hd]
 exact LK (p:=fun d=>d.stays true u) hnd dO hok J ho2 fun x=>rfl
end
section
variable {P:Program} {w0:Fr}{M0:Nat→Prop}{s:St}{o:Oper}{id t u k b:Nat}{e r T:TypeId}{ks:List Value}{cs:List Cell}{xs:List AV}{x y:Operand}{E:Env}{a:Act}{w:World}
theorem FA {n:Int}{q q':IntKind}(ho:o.op=.makeSlice T x y)(hd:o.dst=some t)(hn:Nat.blt t s.n=true)(hnd:Nodup s.s=true)(hT:P.underlying T=some (.slice e))(hel:iS P e k b=true)
  (hx:bj s.ev x=some (.int q 0))(hy:bj s.ev y=some (.int q' n))(h0:0≤n)(hb:b*n.toNat≤281474976710656)(hm:n≤4611686018427387904)(aa:∀b,M0 b→b<w0.w.heap.size):Step P w0 M0 o s ((s.cD true t (.arr e [])).put t (.own t)):=by
 rintro a w Q ⟨E,hs⟩
 obtain⟨i,zz,hi,hzz,hsz,hby,hzs,hk0,hck⟩:=iw hel
 have hx':a.eval x=.int q 0:=ck (ρ:=s.ev) (x:=x) (ob:=s.o) (ev:=a.eval) (fun x e hx=>hs.ev hx) hx
 have hy':a.eval y=.int q' n:=ck (ρ:=s.ev) (x:=y) (ob:=s.o) (ev:=a.eval) (fun x e hx=>hs.ev hx) hy
 obtain⟨w',hrun,hown,hg⟩:=run_make_own (P:=P) w 0 T e i zz k hT hi hzz hsz q q' n.toNat (by rw[hby];exact hb) (by simp only[maxLen];omega) (Z5 _)
 rw[Int.toNat_of_nonneg h0] at hrun
 unfold Oper.wp
 have hexec:(execOp a.eval o).run P w=.ok (.value (.slice (some ⟨w.heap.size,0,none⟩) 0 n.toNat)) w':=by
  simp only[execOp,ho,hx',hy',Sem.run_bind,hrun,Result.andThen_ok,Sem.run_pure]
 rw[hexec]
 simp only[Oper.upon,hd]
 refine⟨{ E with cur:=fun i=>if i=t then .slice (some ⟨w.heap.size,0,none⟩) 0 n.toNat else E.cur i },a8.put ?_ (by simpa[St.cD] using hn) e8⟩
 refine hs.nZ hnd aa hg (fun _=>nj _ _ _ _ hrun) (vals:=[]) (by rw[hck];exact hown) (fun b hb=>?_) (fun v hv=>by cases hv) (fun j d hd=>by simp[flat] at hd)
 simp only[Value.ownBlock,Option.some.injEq] at hb;omega
theorem a8.LM (h:a8 P w0 M0 E s a w)(hnd:Nodup s.s=true)(aa:∀b,M0 b→b<w0.w.heap.size)(hl:s.o.lookup id=some (.nmp ks cs none)):a8 P w0 M0 E (s.cD true id (.mp ks (cs.map Cell.av))) a w:=by
 obtain⟨es,clock,g1,g2,g3,g3',g3'',g4,g5⟩:=h.wok.objs id _ hl
 refine h.cD true (fun q=>by cases q) hnd aa (fun i hi=>⟨rfl,rfl⟩) (.inr J) none ⟨rfl,rfl,rfl,Z1 _,fun _ _ _=>rfl⟩ (fun _=>Z1 _) (fun g hg=>by cases hg) (fun b hb=>.inl ⟨_,hl,.inl hb⟩) (fun rep sv=>?_)
 refine⟨es,clock,g1,g2,g3,by rw[Z0];exact g3',fun j d hd=>?_⟩
 rw[Z6,Z4] at hd
 obtain⟨c,hc,rfl⟩:=hd
 have hj:j<cs.length:=(aaf.1 hc).1
 rw[g3'' j hj]
 refine(g4.ok j c hc (by simp)).rep (fun v d hr=>rep .pl v d hr (by simp)) fun g hg hm=>?_
 have hsub:fK (E.sub id) g cs none:=⟨j,c,hc,by simp,hg⟩
 rcases hm with hm|⟨i,ob,q1,q2⟩
 ·exact(g4.range hsub).1.2 hm
 ·by_cases hi:i=id
  ·subst hi
   rw[ax,if_pos rfl] at q1
   simp only[Option.some.injEq] at q1
   subst q1
   exact g5 g hsub q2
  ·rw[ax,if_neg hi,cu,Z4] at q1
   obtain⟨ob0,q3,rfl⟩:=q1
   exact hi (h.wok.disj i ob0 id _ g q3 hl (iv.1 q2) (.inr hsub))
theorem FB (b j:Nat){eb:TypeId}{bs bs':List SV}(aa:∀b,M0 b→b<w0.w.heap.size)(hnd:Nodup s.s=true)(hb0:s.o.lookup b=some (.box eb bs))(hj:bs[j]?=some (.nst id))(hl:s.o.lookup id=some (.nmp ks cs none))
  (hb:(s.cD true id (.mp ks (cs.map Cell.av))).o.lookup b=some (.box eb bs'))(hbl:bs'.length=bs.length)
  (hnd':Nodup (s.cD true id (.mp ks (cs.map Cell.av))).s=true):fJ P w0 M0 s ((s.cD true id (.mp ks (cs.map Cell.av))).cD false b (.box eb ((c3 b bs').set j (.omap id)))):=by
 rintro a w ⟨E,hs⟩
 have h1:=hs.LM hnd aa hl
 have hbi:b≠id:=fun q=>by rw[q,hl] at hb0;cases hb0
 obtain⟨vals0,q1,q2,q3,q4⟩:=hs.wok.objs b _ hb0
 have hv:vals0.getD j undef=.map (some (E.blk id)):=(q4 j _ hj).2.2.2 ks cs none hl
 refine⟨E,h1.cD false (fun _=>⟨rfl,.inr (.inl ⟨eb,bs',_,hb,rfl⟩)⟩) hnd' aa (fun i hi=>⟨rfl,rfl⟩) (.inr J) none ⟨rfl,rfl,rfl,Z1 _,fun _ _ _=>rfl⟩ (fun _=>Z1 _) (fun g hg=>by cases hg) (fun b' hb'=>.inl ⟨_,hb,hb'⟩) (fun rep sv=>?_)⟩
 obtain⟨vals,g1,g2,g3,g4⟩:=h1.wok.objs b _ hb
 have hvv:vals=vals0:=by
  rw[q1] at g1
  simp only[Option.some.injEq,Obj.cells.injEq] at g1
  have:=g1.1
  simpa using this.symm
 subst hvv
 refine⟨vals,g1,g2,by simpa[c3] using g3,fun i d hd=>?_⟩
 by_cases hi:j=i
 ·subst hi
  have hjl:j<bs'.length:=by rw[hbl];exact(aaf.1 hj).1
  rw[abj (by simpa[c3] using hjl)] at hd
  simp only[Option.some.injEq] at hd
  subst hd
  exact⟨rfl,(q4 j _ hj).2.1,fun e1 c1 hh=>hv⟩
 ·rw[abo hi] at hd
  simp only[c3,Z6,Z4] at hd
  obtain⟨d0,hd0,rfl⟩:=hd
  have:=g4 i d0 hd0
  split
  ·exact⟨this.1,this.2.1,sv _ _ this.2.2 ‹_›⟩
  ·exact⟨rfl,this.2.1,trivial⟩
end
section
variable {P:Program} {w w':World}
theorem xh {f n t:Nat}{c:Code}(hf:G3 P f n t c){ds:List AV}{r:RV}(hn:ds.length≤n)
   (h:∀(w0:Fr)(M0:Nat→Prop),(∀b,M0 b→b<w0.w.heap.size)→w0.md=.marks→ao P w0 M0 c (St.enter n .pl ds) (yO t r)):aX P f ds r:=by
 refine⟨hf.bu,fun w M vs hM hv hr=>?_⟩
 have h0:=h (Fr.allM True w) M hM rfl
 rw[eS] at h0
 obtain⟨fn,h1,h2,h3,h4,h5⟩:=hf
 refine px h1 h2 h3 (R:=fun v w'=>Below w.heap.size w w'∧iI P w' M (fun b=>b<w.heap.size) v r) (by simpa using hn) vs (by simpa using hv) (fun j d hd=>?_) h0 (fun e s' a' w' E' hq hs=>?_)
 · rw [Z6, Z4] at hd
   obtain⟨a,ha,rfl⟩:=hd
   have:=hr j a ha
   simp only[bo,ei]
   exact this.ca (fun b hb=>Or.elim hb id (fun h=>False.elim h))
 · have fin : (s'.s.lookup t).bind (bR s'.o) = some r → ∀ w4, iJ w.heap.size w' w4 → ∃ v, (results fn a'.tmps).run P w4 = .ok v w4 ∧ Below w.heap.size w w4 ∧ iI P w4 M (fun b => b < w.heap.size) v r := fun hx w4 hd => by
     refine⟨a'.tmps.getD t undef,by simp[results,h4],bF.trans hs.wok.below.below hd.grown,hd.ret ?_⟩
     cases hl:s'.s.lookup t with
     | none=>rw[hl] at hx;cases hx
     | some sv =>
       rw[hl] at hx
       exact dW hs.wok (hs.slots t sv hl).2 hx
   cases e with
   | normal=>exact⟨.inl rfl,fin hq⟩
   | ret=>exact⟨.inr rfl,fin hq⟩
   | exit _=>exact hq.elim
   | goto _=>exact hq.elim
   | panic _=>exact hq.elim
   | outgrown=>exact hq.elim
theorem vL {f n t u v:Nat}{c:Code}(hf:QS P f n t u v c){ds:List AV}{r r' r'':AV}(hn:ds.length≤n)
   (h:∀(w0:Fr)(M0:Nat→Prop),(∀b,M0 b→b<w0.w.heap.size)→w0.md=.marks→ao P w0 M0 c (St.enter n .pl ds) (Lf t u v r r' r'')):aX P f ds (.p (.tup [r,r',r''])):=by
 refine⟨hf.bu,fun w M vs hM hv hr=>?_⟩
 have h0:=h (Fr.allM True w) M hM rfl
 rw[eS] at h0
 obtain⟨fn,h1,h2,h3,h4,h5⟩:=hf
 refine px h1 h2 h3 (R:=fun v w'=>Below w.heap.size w w'∧iI P w' M (fun b=>b<w.heap.size) v (.p (.tup [r,r',r'']))) (by simpa using hn) vs (by simpa using hv) (fun j d hd=>?_) h0 (fun e s' a' w' E' hq hs=>?_)
 · rw [Z6, Z4] at hd
   obtain⟨a,ha,rfl⟩:=hd
   have:=hr j a ha
   simp only[bo,ei]
   exact this.ca (fun b hb=>Or.elim hb id (fun h=>False.elim h))
 · have fin : ((∃ q, (s'.s.lookup t).bind (bR s'.o) = some q ∧ q.data = r) ∧ (∃ q, (s'.s.lookup u).bind (bR s'.o) = some q ∧ q.data = r') ∧ (∃ q, (s'.s.lookup v).bind (bR s'.o) = some q ∧ q.data = r'')) →
       ∀w4,iJ w.heap.size w' w4→∃v,(results fn a'.tmps).run P w4=.ok v w4∧Below w.heap.size w w4∧iI P w4 M (fun b=>b<w.heap.size) v (.p (.tup [r,r',r''])):=by
     rintro⟨⟨q1,hq1,hd1⟩,⟨q2,hq2,hd2⟩,⟨q3,hq3,hd3⟩⟩ w4 hdt
     have one:∀x q,(s'.s.lookup x).bind (bR s'.o)=some q→bJ w4 M (a'.tmps.getD x undef) q.data:=by
       intro x q hx
       cases hl:s'.s.lookup x with
       | none=>rw[hl] at hx;cases hx
       | some sv =>
         rw[hl] at hx
         exact hdt.rep ((dW hs.wok (hs.slots x sv hl).2 hx).rep hM)
     have r1:=one t q1 hq1
     have r2:=one u q2 hq2
     have r3:=one v q3 hq3
     rw[hd1] at r1;rw[hd2] at r2;rw[hd3] at r3
     refine⟨.tuple #[a'.tmps.getD t undef,a'.tmps.getD u undef,a'.tmps.getD v undef],by simp[results,h4],bF.trans hs.wok.below.below hdt.grown,.tup [a'.tmps.getD t undef,a'.tmps.getD u undef,a'.tmps.getD v undef] [r,r',r''] J (fun j d hd=>by
       match j,hd with
       | 0,hd=>simp at hd;subst hd;exact r1
       | 1,hd=>simp at hd;subst hd;exact r2
       | 2,hd=>simp at hd;subst hd;exact r3
       | j+3,hd=>simp at hd)⟩
   cases e with
   | normal=>exact⟨.inl rfl,fin hq⟩
   | ret=>exact⟨.inr rfl,fin hq⟩
   | exit _=>exact hq.elim
   | goto _=>exact hq.elim
   | panic _=>exact hq.elim
   | outgrown=>exact hq.elim
end
def T8 (st:SV→Bool):dV→dV
 | .arr u=>if st (.own u) then .arr u else .no
 | .map u=>if st (.omap u) then .map u else .no
 | .no=>.no
theorem zL {st:SV→Bool}{ks:List Value}{key:Value}{l:dV}:sy st (vK ks key l)=vK ks key (T8 st l):=by
 unfold vK
 cases dI ks key with
 | none=>rfl
 | some j=>cases l<;>rfl
section
variable {P:Program} {w0:Fr}{M0:Nat→Prop}{s:St}{id:Nat}{e:TypeId}{xs:List AV}
theorem hJ (b j:Nat) {eb:TypeId} {bs:List SV} (aa:∀ b,M0 b→b<w0.w.heap.size) (hnd:Nodup s.s=true) (hb:s.o.lookup b=some (.box eb bs)) (hj:bs[j]?=some (.own id)) (hl:s.o.lookup id=some (.arr e xs)) :
   fJ P w0 M0 s { n:=s.n,s:=s.s.filter (fun p=>p.2.stays true id),o:=ins b (.box eb ((bs.map fun d=>if d.stays true id then d else .dead).set j (.v .pl (.sl xs)))) (gY id (iE true id s.o)) }:=by
 rintro a w ⟨E,hs⟩
 have hbi:b≠id:=fun q=>by rw[q,hl] at hb;cases hb
 obtain⟨vals,g1,g2,g3,g4⟩:=hs.wok.objs b _ hb
 have hv:vals.getD j undef=E.cur id:=(g4 j _ hj).2.2 e xs hl
 have hN:∀i q,(if i=id then some none else if i=b then some (some (Ob.box eb ((bs.map fun d=>if d.stays true id then d else .dead).set j (.v .pl (.sl xs))))) else none:Option (Option Ob))=some q→(i=id∧q=none)∨(i=b∧q=some (.box eb ((bs.map fun d=>if d.stays true id then d else .dead).set j (.v .pl (.sl xs))))):=fun i q hq=>by
   by_cases h1:i=id
   · rw[if_pos h1] at hq;injection hq with hq;exact .inl ⟨h1,hq.symm⟩
   · rw [if_neg h1] at hq
     by_cases h2:i=b
     · rw[if_pos h2] at hq;injection hq with hq;exact .inr ⟨h2,hq.symm⟩
     · rw[if_neg h2] at hq;cases hq
 refine⟨E,a8.wG (E':=E) (SV.stays true id) (fun i=>if i=id then some none else if i=b then some (some (.box eb ((bs.map fun d=>if d.stays true id then d else .dead).set j (.v .pl (.sl xs))))) else none) _ (fun i=>?_) (fun d=>rfl) (fun i ob hq hx=>?_) (fun i hq=>⟨rfl,rfl⟩) hs hnd aa (fun i hq=>⟨rfl,rfl,rfl⟩) (fun x hx=>rfl) none ⟨rfl,rfl,rfl,Z1 _,fun _ _ _=>rfl⟩ (fun _=>Z1 _) (fun g hg=>by cases hg) (fun i ob b' hq hb'=>.inl ?_) (fun i ob i' ob' b' hq hq' hb1 hb2=>?_) (fun rep sv lents i ob hq=>?_)⟩
 · rw [ax]
   by_cases h2:i=b
   · rw[if_pos h2,if_neg (fun q=>hbi (h2.symm.trans q)),if_pos h2]
   · rw [if_neg h2, c8]
     by_cases h1:i=id
     · rw[if_pos h1,if_pos h1]
     · rw[if_neg h1,if_neg h1,if_neg h2];exact cu true id i s.o
 · rcases hN i _ hq with ⟨_, q⟩ | ⟨rfl, q⟩
   · cases q
   · injection q with q; subst q
     exact⟨rfl,rfl,.inr (.inl ⟨eb,bs,_,hb,rfl⟩)⟩
 · rcases hN i _ hq with ⟨_, q⟩ | ⟨rfl, q⟩
   · cases q
   · injection q with q; subst q
     exact⟨i,_,by rw[if_neg hbi,if_pos J];simp,hb,hb'⟩
 · rcases hN i _ hq with ⟨_, q⟩ | ⟨rfl, _⟩
   · cases q
   · rcases hN i' _ hq' with ⟨_, q⟩ | ⟨rfl, _⟩
     · cases q
     · rfl
 · rcases hN i _ hq with ⟨_, q⟩ | ⟨rfl, q⟩
   · cases q
   · injection q with q; subst q
     refine⟨vals,g1,g2,by simpa using g3,fun k d hd=>?_⟩
     by_cases hk:j=k
     · subst hk
       have hjl:j<bs.length:=(aaf.1 hj).1
       rw[abj (by simpa using hjl)] at hd
       simp only[Option.some.injEq] at hd
       subst hd
       refine⟨rfl,(g4 j _ hj).2.1,?_⟩
       rw[hv]
       refine(hs.wok.objs id _ hl).rep (fun b' hb'=>?_) fun g hg hm=>?_
       · rcases hb' with hb' | ⟨i2, ob, q1, q2⟩
         · exact .inl hb'
         · rw [ax] at q1
           by_cases h2:i2=i
           · rw [if_pos h2] at q1
             simp only[Option.some.injEq] at q1
             subst q1;subst h2
             exact .inr ⟨_,_,hb,q2⟩
           · rw [if_neg h2, c8] at q1
             by_cases h1:i2=id
             · rw[if_pos h1] at q1;cases q1
             · rw [if_neg h1, cu, Z4] at q1
               obtain⟨ob0,q3,rfl⟩:=q1
               exact .inr ⟨i2,ob0,q3,iv.1 q2⟩
       · have hown : bE E id g (.arr e xs) := hg
         rcases hm with hm|⟨i2,ob,q1,q2⟩
         · exact((hs.wok.objs id _ hl).dA hown).1.2 hm
         · rw [ax] at q1
           by_cases h2:i2=i
           · rw [if_pos h2] at q1
             simp only[Option.some.injEq] at q1
             subst q1;subst h2
             exact hbi (hs.wok.disj _ _ id _ g hb hl q2 hown)
           · rw [if_neg h2, c8] at q1
             by_cases h1:i2=id
             · rw[if_pos h1] at q1;cases q1
             · rw [if_neg h1, cu, Z4] at q1
               obtain⟨ob0,q3,rfl⟩:=q1
               exact h1 (hs.wok.disj i2 ob0 id _ g q3 hl (iv.1 q2) hown)
     · rw [abo hk] at hd
       rw[Z6,Z4] at hd
       obtain⟨d0,hd0,rfl⟩:=hd
       have:=g4 k d0 hd0
       split
       · exact⟨this.1,this.2.1,sv _ _ this.2.2 ‹_›⟩
       · exact⟨rfl,this.2.1,trivial⟩
end
section
variable {P:Program} {w0:Fr}{M0:Nat→Prop}
variable {o:Oper} {ρ:Operand→Option SV}{ob:List (Nat×Ob)}{x y z:Operand}{T T' e:TypeId}{k b:Nat}{c:fQ}{id off:Nat}{s:St}{t:Nat}{ks:List Value}{vs:List AV}{kt et:TypeId}{kd:TypeDesc}{cs:List SV}
theorem Bo {f:FuncId}{caps:List qg}(hy:s.ev y=some (.fn f caps)):∀(E:Env)(a:Act)(w:World),a8 P w0 M0 E s a w→(a.eval y).oneCell'=true:=fun E a w hs=>by
 obtain⟨vs,h,_⟩:=hs.ev hy;rw[h];rfl
theorem eV {d1:SV}(ho:o.op=.store T x y)(hd:o.dst=none)(hnd:Nodup s.s=true)(hk:bW P T=some 1)(hx:s.ev x=some (.pbox id off))(hl:s.o.lookup id=some (.box e cs))(hy:s.ev y=some d1)(hlf:d1.leaf=true)(hst:d1.stays false id=true)
  (hone:∀(E:Env)(a:Act)(w:World),a8 P w0 M0 E s a w→(a.eval y).oneCell'=true)(hle:Nat.ble (off+1) cs.length=true)(aa:∀b,M0 b→b<w0.w.heap.size):Step P w0 M0 o s (s.cD false id (.box e (qW (c3 id cs) off [d1]))):=by
 rintro a w Q ⟨E,hs⟩
 have hle':=ZZ hle
 have hxv:=hs.ev hx e cs hl
 have hyv:=hs.ev hy
 have h1c:=hone E a w hs
 generalize hu:a.eval y=u at hyv h1c
 have hcells:u.cells=#[u]:=by cases u<;>simp_all [Value.cells,Value.oneCell']
 obtain⟨vals,h1,h2,h3,h4⟩:=hs.wok.objs id _ hl
 have hrun:=lq (P:=P) (w:=w) (v:=u) (p:=off) hk (by rw[hcells];rfl) h1 (by simp;omega) (by rw[hcells];simpa using h1c)
 unfold Oper.wp
 have hexec:(execOp a.eval o).run P w=.ok .skip (w.setRow (E.blk id) (qW vals off [u]).toArray):=by
  rw[hcells] at hrun
  simp[execOp,ho,hxv,hu,Instr.storeAt,Instr.sureAddr,hrun]
 rw[hexec]
 simp only[Oper.upon,hd,Act.put]
 have hspl:off+[u].length≤vals.length:=by simp;omega
 refine⟨E,hs.cD false (fun _=>⟨rfl,.inr (.inl ⟨e,cs,_,hl,rfl⟩)⟩) hnd aa (fun i hi=>⟨rfl,rfl⟩) (.inr J) (some (E.blk id)) jN (fun _=>Z1 _) (fun g hg=>⟨_,hl,by simpa[bE] using hg⟩) (fun b hb=>.inl ⟨_,hl,hb⟩) (fun rep sv=>?_)⟩
 refine⟨_,setRow_heap w _ _ _ e _ h1,h2,?_,fun j' d hj'=>?_⟩
 ·rw[dC hspl,dC (by simp[c3];omega)];simp[c3,h3]
 ·rw[fm (by simp[c3];omega)] at hj'
  rw[ZY,fm hspl]
  simp only[aaY] at hj' ⊢
  split at hj'
  ·rename_i hin
   rw[if_pos hin]
   have hz:j'-off=0:=ace
   rw[hz] at hj' ⊢
   simp only[aat,Option.some.injEq] at hj'
   subst hj'
   simp only[aat,abK]
   exact⟨hlf,h1c,sv _ _ hyv hst⟩
  ·rename_i hin
   rw[if_neg hin]
   simp only[c3,Z6,Z4] at hj'
   obtain⟨d0,hd0,rfl⟩:=hj'
   have:=h4 j' d0 hd0
   rw[ZY] at this
   split
   ·exact⟨this.1,this.2.1,sv _ _ this.2.2 ‹_›⟩
   ·exact⟨rfl,this.2.1,trivial⟩
end
section
variable {P:Program} {w0:Fr}{M0:Nat→Prop}{s:St}{o:Oper}{id t off:Nat}{e T T':TypeId}{ks:List Value}{vs:List AV}{x y:Operand}{ρ:Operand→Option SV}{ob:List (Nat×Ob)}{c:fQ}{cs:List AV}
theorem rK (ho:o.op=.nilCheck x)(hx:ρ x=some (.v c (.pc cs off))):Pure P w0 M0 o ρ ob (.v c (.pc cs off)) :=
 aE fun E w ev hw h=>by
  have hr:=h x _ hx
  refine⟨ev x,w,?_,.refl _ _,hr⟩
  simp only[bo] at hr
  generalize hq:ev x=q at hr
  cases hr with
  | pc b o' _ _ cv h1 h2 hc hl hr=>simp only[execOp,ho,hq,Sem.run_pure]
theorem Se {w:World}{M:Nat→Prop}{v:Value}(h:bJ w M v (.pc cs off)):∃a,v=.pointer (some a):=by
 cases h with
 | pc b o' _ _ cv h1 h2 hc hl hr=>exact⟨_,rfl⟩
theorem q7 (ho:o.op=.binOp .eql T x y T')(hT:P.underlying T=some (.pointer (P.pointee T)))(hx:ρ x=some (.v c (.pc cs off)))(hy:bj ρ y=some (.pointer none)):Pure P w0 M0 o ρ ob (.v .pl (bool false)) :=
 aE fun E w ev hw h=>by
  obtain⟨a,ha⟩:=Se (h x _ hx)
  have hyv:ev y=.pointer none:=ck h hy
  exact⟨.bool false,w,by simp[execOp,ho,ha,hyv,eqGuard,run_eql_pointer_nil w T (some a) hT],.refl _ _,.sc _ J⟩
def Dc (v:Value)(vs:List Value):Prop:=v=.agg vs.toArray
theorem Dd {i:Nat}{places:List (Nat×Nat)}{zs:List Value}(ho:o.op=.build T #[(i,x)])(hpl:placesOf P T=some places)(hz:zeroOf P T=some zs)(hzs:zs.all Value.oneCell'=true)(hx:ρ x=some (.omap id))(hl:ob.lookup id=some (.mp ks vs))(hp:places[i]?=some (off,1))(hoff:Nat.blt off zs.length=true) :
   Pure P w0 M0 o ρ ob (.hid Dc ((zs.map fun z=>qg.pl (.sc z)).set off (.om id))) :=
 aE fun E w ev hw h=>by
   have hxv:ev x=.map (some (E.blk id)):=h x _ hx ks vs hl
   have hlt:off<zs.length:=abR (ZZ hoff)
   have hrun:(Instr.build T (#[(i,x)].map fun(i,x)=>(i,ev x))).run P w=.ok (.agg (zs.set off (.map (some (E.blk id)))).toArray) w:=by
     apply run_build
     unfold placesOf at hpl
     unfold zeroOf at hz
     unfold Program.built
     split at hpl
     · rename_i fields hu
       cases hi:P.info? T with
       | none=>rw[hi] at hz;cases hz
       | some it =>
         rw[hi] at hz
         simp only[abu,Z4] at hz
         obtain⟨z,hz1,hz2⟩:=hz
         simp only[hu,hz1,hpl]
         have e0:z.cells=zs.toArray:=by rw[←hz2]
         rw[e0]
         simp only[List.map_toArray,aaL,aa9,Instr.fill,List.getElem?_toArray,hp,hxv]
         rw[if_neg (by simp[Value.cells];omega)]
         simp[Value.cells,Array.zipIdx]
     · cases hpl
   refine⟨.agg (zs.set off (.map (some (E.blk id)))).toArray,w,by simp only[execOp,ho,Sem.run_bind,hrun,Result.andThen_ok,Sem.run_pure],.refl _ _,zs.set off (.map (some (E.blk id))),rfl,by simp,fun j c hc=>?_⟩
   by_cases hj:off=j
   · subst hj
     rw[abj (by simpa using hlt)] at hc
     simp only[Option.some.injEq] at hc
     subst hc
     intro ks' vs' _
     rw[ZY,abj hlt];rfl
   · rw [abo hj, Z6, Z4] at hc
     obtain⟨z,hz1,rfl⟩:=hc
     rw[ZY,abo hj,hz1]
     exact .sc z (by rw[aam] at hzs;exact hzs z (aaA hz1))
def LN (ob:List (Nat×Ob))(t:Nat):qg→Bool
 | .pl d=>d.leaf
 | .om id=>(match ob.lookup id with|some (.mp _ _)=>true|_=>false)&&!(Nat.beq id t)
 | _=>false
theorem I5 {caps:List qg}(ho:o.op=.box T x)(hd:o.dst=some t)(hn:Nat.blt t s.n=true)(hpt:Nat.blt t 1000000=true)(hnd:Nodup s.s=true)(hx:s.ev x=some (.hid Dc caps))(hc:caps.all (LN s.o t)=true)(aa:∀b,M0 b→b<w0.w.heap.size) :
   Step P w0 M0 o s ((s.cD true t (.box T (caps.map qg.sv))).put t (.pbox t 0)):=by
 rintro a w Q ⟨E,hs⟩
 obtain⟨us,hv,h2,h3⟩:=hs.ev hx
 have hv:a.eval x=.agg us.toArray:=hv
 unfold Oper.wp
 have hexec:(execOp a.eval o).run P w=.ok (.value (.pointer (some ⟨w.heap.size,0,none⟩))) (w.alloc (.cells us.toArray T)):=by
   simp[execOp,ho,hv,Instr.box,newVar,newRow,Value.cells]
 rw[hexec]
 simp only[Oper.upon,hd]
 refine⟨{ E with blk:=fun i=>if i=t then w.heap.size else E.blk i },a8.put ?_ (by simpa[St.cD] using hn) rD⟩
 refine hs.Ff hnd aa (aax (abR (ZZ hpt)) (Z1 _)) (by simpa using h2) (fun j sv hj=>?_)
 rw[Z6,Z4] at hj
 obtain⟨cp,hcp,rfl⟩:=hj
 have h4:=h3 j cp hcp
 have h5:=aam.1 hc cp (aaA hcp)
 have eg:(us.toArray).getD j undef=us.getD j undef:=by simp[aar,ZY]
 rw[eg]
 cases cp with
 | pl d=>exact⟨h5,bJ.one h4 h5,h4,rfl⟩
 | om id =>
   unfold LN at h5
   rw[aae] at h5
   cases hl:s.o.lookup id with
   | none=>rw[hl] at h5;cases h5.1
   | some ob =>
     rw[hl] at h5
     cases ob with
     | mp ks vs =>
       have h6:=h4 ks vs hl
       refine⟨rfl,by rw[h6];rfl,h4,?_⟩
       show(!(true&&Nat.beq id t))=true
       rw[aaZ];exact h5.2
     | _=>cases h5.1
 | bx id=>cases h5
 | ow id=>cases h5
end
def Bp {α:Type}(f:α→Prop):List α→Prop
 | []=>True
 | i :: r=>f i∧Bp f r
theorem Bp.get {α:Type}{f:α→Prop}:∀{l:List α}{i:α},Bp f l→i∈l→f i
 | j :: r, i, h, hi => by
   rcases aah.1 hi with rfl|hi
   · exact h.1
   · exact Bp.get h.2 hi
theorem ai {a b:Prop}(x:a)(y:b):a∧b:=⟨x,y⟩
section
variable (P:Program) (w0:Fr)(M0:Nat→Prop)(ops:Array Oper)(n:Nat)(G:List (Nat×SV))(E:Nat→Nat)(m:Nat)(O:Nat→List (Nat×Ob))
def Sf (p i:Nat):Bool:=(List.range p).all (fun q=>!(kL ops ops.size (E q)).contains i)&&!(Nat.blt p m&&(kL ops ops.size i).contains (E p))
def WG (i p:Nat):Prop:=match ops[i]? with
 | none=>True
 | some o => match o.dst with
   | none=>True
   | some t => match G.lookup t with
     | none=>True
     | some d=>Pure P w0 M0 o (ff ops o (St.ev ⟨n,G,O p⟩)) (O p) d
def Y1 (p:Nat):Prop:=match ops[E p]? with
 | none=>True
 | some o=>∀X,Nodup X=true→(∀t d,X.lookup t=some d→G.lookup t=some d)→(∀t,t∈looks ops o→X.lookup t=G.lookup t)→∃s',Step P w0 M0 o ⟨n,X,O p⟩ s'∧fJ P w0 M0 s' ⟨n,rI G X o,O (p+1)⟩
def Sg (k:Nat):Bool:=(List.range k).all fun i=>match(ops[i]?).bind (·.dst) with
 | none=>true
 | some t=>(G.lookup t).isSome
def Zv (k:Nat)(L:List (Nat×Option (List Nat))):Bool:=(List.range k).all fun i=>Bk E m i||L.any fun q=>Nat.beq q.1 i&&match q.2 with
 | none=>true
 | some ps=>(List.range (m+1)).all fun p=>!Sf ops E m p i||ps.contains p
def Zw (q:Nat×Option (List Nat)):Prop:=match q.2 with
 | none=>∀p,WG P w0 M0 ops n G O q.1 p
 | some ps=>Bp (WG P w0 M0 ops n G O q.1) ps
end
section
variable {P:Program} {w0:Fr}{M0:Nat→Prop}{ops:Array Oper}
theorem bw {id:Nat}{n:Nat}{s0:List (Nat×SV)}(m:Nat)(E:Nat→Nat)(O:Nat→List (Nat×Ob))(k:Nat)(L:List (Nat×Option (List Nat)))(G:List (Nat×SV)){Q':Exit→St→Prop}(hm:P.follows .mixedOrders=true)(hok:mY ops=true)(htl:fY ops k=true)(hmid:xa ops n k (Bk E m)=true)(hc:Bn ops E m k=true)(hL:Zv ops E m k L=true)(hset:Sg ops G k=true)
   (hG:∀t d,(G.filter fun p=>eG ops k #[] p.1).lookup t=some d→s0.lookup t=some d)(hnd:Nodup G=true)
   (hP:Bp (Zw P w0 M0 ops n G O) L)
   (hE:Bp (Y1 P w0 M0 ops n G E O) (List.range m))
   (hend:ss P w0 M0 ops (fun s=>∃s',fJ P w0 M0 s s'∧Q' .normal s') k ⟨n,G,O m⟩):ao P w0 M0 (.region id ops true) ⟨n,s0,O 0⟩ Q':=by
 refine Fx m E O k G hm hok htl hmid hc hG hnd (fun i t hi ht=>?_) (fun p i o t d hp hi he ho hd W4 h1 h2=>?_) (fun p o X hp ho hX dO dh=>?_) hend
 · have := aam.1 hset i (aap.2 hi)
   simp only[ht] at this
   exact Option.isSome_iff_exists.1 this
 · have hph : Sf ops E m p i = true := by
     unfold Sf
     rw[aae,aam]
     refine⟨fun q hq=>by rw[h1 q (aap.1 hq)];rfl,?_⟩
     by_cases hpm:p<m
     · rw[h2 hpm,abi];rfl
     · have hb : Nat.blt p m = false := by
         cases hq:Nat.blt p m
         · rfl
         · exact absurd (by simpa using hq) hpm
       rw[hb,abc];rfl
   have hl:=aam.1 hL i (aap.2 hi)
   rw[he,Bool.false_or,aay] at hl
   obtain⟨⟨j,x⟩,hq,hl⟩:=hl
   rw[aae] at hl
   have hj:j=i:=aaM hl.1
   subst hj
   have h:=hP.get hq
   have hp2:WG P w0 M0 ops n G O j p:=by
     cases x with
     | none=>exact h p
     | some ps =>
       have h3:=aam.1 hl.2 p (aap.2 ace)
       rw[hph] at h3
       exact Bp.get (show Bp _ ps from h) (aaH.1 (by simpa using h3))
   unfold WG at hp2
   simp only[ho,hd,W4] at hp2
   exact hp2
 · have h := hE.get (aap.2 hp)
   unfold Y1 at h
   simp only[ho] at h
   exact h X hX dO dh
end
end Go.Am
