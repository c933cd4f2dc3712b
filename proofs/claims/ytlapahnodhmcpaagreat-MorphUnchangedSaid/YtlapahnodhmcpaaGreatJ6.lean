/-
  Part of the proof.
-/
import Derived.Test.YtlapahnodhmcpaaGreatJ0
import Derived.Test.YtlapahnodhmcpaaGreatJ5
import Derived.MapKept
import Derived.ChangeMaps4
import Derived.Carry
import Derived.Laws.BytesArg
import Derived.Shelf.SlSortCmp.Kit1
import Derived.ProofKit
import Derived.OpenShut
import Derived.Handed
import Derived.Deep.Slices
import Derived.WideKeyArgs
import Derived.Scope
import Derived.Control
import Derived.Lib.SliceRun
set_option linter.unusedVariables false
set_option linter.unusedSectionVars false
set_option linter.unusedSimpArgs false
set_option maxRecDepth 100000
set_option maxHeartbeats 40000000
namespace Go.Am
open Go.RowKit Go.MapKept Go.ChangeMaps
open Classical in
noncomputable def dK:List Value→Value→Option Nat
 | [],_=>none
 | x :: r,k=>if x=k then some 0 else(dK r k).map (·+1)
theorem Ak {k:Value}:∀{l:List Value},dK l k=none↔k ∉ l
 | []=>by simp[dK]
 | x :: r => by
   unfold dK;split
   · rename_i h;subst h;simp
   · rename_i h
     rw[Option.map_eq_none_iff,Ak (l:=r),aaC,not_or];exact⟨fun h'=>⟨fun e=>h e.symm,h'⟩,fun h'=>h'.2⟩
theorem eP {k:Value}:∀{l:List Value}{i:Nat},dK l k=some i→l[i]?=some k
 | [],i,h=>by simp[dK] at h
 | x :: r, i, h => by
   unfold dK at h;split at h
   · rename_i he;subst he;simp only[aaj] at h;subst h;rfl
   · rw [aao] at h
     obtain⟨j,hj,rfl⟩:=h;simpa using eP hj
noncomputable def fY (ks:List Value)(k:Value):List Value:=match dK ks k with
 | some _=>ks
 | none=>ks++[k]
noncomputable def Ju (ks:List Value)(vs:List AV)(k:Value)(a:AV):List AV:=match dK ks k with
 | some i=>vs.set i a
 | none=>vs++[a]
noncomputable def s5 (z:AV)(ks:List Value)(vs:List AV)(k:Value):AV:=match dK ks k with
 | some i=>vs.getD i z
 | none=>z
noncomputable def Jv (ks:List Value)(k:Value):Bool:=(dK ks k).isSome
theorem jU {d:TypeDesc}{k:Value}(hk:IsKey d k):∀(l:List MapEntry)(i:Nat),(∀x∈l,IsKey d x.key) →
   Instr.findNow d k l i=some ((dK (l.map (·.key)) k).map fun j=>(i+j,(l.map (·.val)).getD j undef))
 | [],_,_=>rfl
 | e :: es, i, h => by
   obtain⟨r,hr,hiff⟩:=sameNow_of_keys hk (h e (.head _));simp only[aa6,dK];cases r with
   | true=>rw[if_pos (hiff.1 rfl).symm];simp[Instr.findNow,hr]
   | false =>
     have hne:e.key≠k:=fun q=>by have:=hiff.2 q.symm;cases this
     rw[if_neg hne];have ih:=jU hk es (i+1) (fun x hx=>h x (.tail _ hx));simp only[Instr.findNow,hr,ih,Option.map_map]
     congr 1
     cases dK (es.map (·.key)) k with
     | none=>rfl
     | some j=>simp;omega
variable{key u v:Value}{a0:AV}{Q:Exit→St→Prop}
section
variable {P:Program} {w0:Fr}{M0:Nat→Prop}
variable {o:Oper} {ρ:Operand→Option SV}{ob:List (Nat×Ob)}{d:SV}{x y z:Operand}{T T' e:TypeId}{k b:Nat}{c:fW}{id off:Nat}{s:St}{t:Nat}{ks:List Value}{vs:List AV}{kt et:TypeId}{kd:TypeDesc}
theorem ba.SR {E:Env}{a:Act}{w:World}(h:ba P w0 M0 E s a w)(hnd:Nodup s.s=true)(aa:∀b,M0 b→b<w0.w.heap.size)(hpt:t<1000000) :
  ba P w0 M0 { E with blk:=fun i=>if i=t then w.heap.size else E.blk i } (s.cC true t (.mp [] [])) a (w.alloc (.map #[] 0)):=by
 refine h.cC true (fun h=>by cases h) hnd aa (fun i hi=>⟨rfl,by simp[hi]⟩) (.inl (BI hpt)) none (World.grownBy_alloc w _ none) (fun _=>aak _) (fun g hg=>by cases hg) (fun b hb=>.inr ?_) (fun rep sv=>?_)
 ·simp only[bE,if_true] at hb;omega
 ·have hblk:mK w0 M0 w.heap.size:=h.wok.hJ aa (aak _);exact⟨#[],0,by simp only[if_true];exact heap_alloc_new w (.map #[] 0),by simp only[if_true];exact hblk,rfl,rfl,fun j d hd=>by simp at hd⟩
theorem step_map {r:Option Operand}(ho:o.op=.makeMap T r)(hd:o.dst=some t)(hn:Nat.blt t s.n=true)(hpt:Nat.blt t 1000000=true)(hnd:Nodup s.s=true)(hT:P.underlying T=some (.map kt et))
   (hr:∀q,r=some q→∃kk n,aZ s.ev q=some (.int kk n))(aa:∀b,M0 b→b<w0.w.heap.size):Step P w0 M0 o s ((s.cC true t (.mp [] [])).put t (.omap t)):=by
 rintro a w Q ⟨E,hs⟩;unfold Oper.wp;have hexec:(execOp a.eval o).run P w=.ok (.value (.map (some w.heap.size))) (w.alloc (.map #[] 0)):=by
   cases r with
   | none=>simp[execOp,ho,run_makeMap]
   | some q =>
     obtain⟨kk,n,hq⟩:=hr q rfl;have hq':a.eval q=.int kk n:=bK (ρ:=s.ev) (x:=q) (ob:=s.o) (ev:=a.eval) (fun x e hx=>hs.ev hx) hq;simp[execOp,ho,hq',Instr.makeMap,run_underlying hT,asInt,asIntOf,Result.andThen,newObj,Sem.run]
 rw[hexec];simp only[Oper.upon,hd];refine⟨{ E with blk:=fun i=>if i=t then w.heap.size else E.blk i },ba.put (hs.SR hnd aa (acj (aah hpt))) (by simpa[St.cC] using hn) ?_⟩;intro ks' vs' _;simp
theorem LM (ho:o.op=.mapUpdate T x y z)(hd:o.dst=none)(hnd:Nodup s.s=true)(hT:P.underlying T=some (.map kt et))(hkd:P.underlying kt=some kd)(hx:s.ev x=some (.omap id))(hl:s.o.lookup id=some (.mp ks vs))
   (hy:aZ s.ev y=some key)(hz:viewAt s.ev s.o z=some (.pl,a0))(hk:IsKey kd key)(hks:∀u∈ks,IsKey kd u)(aa:∀b,M0 b→b<w0.w.heap.size) :
   Step P w0 M0 o s (s.cC false id (.mp (fY ks key) (Ju ks vs key a0))):=by
 rintro a w Q ⟨E,hs⟩;have hxv:=hs.ev hx ks vs hl;have hyv:a.eval y=key:=bK (ρ:=s.ev) (x:=y) (ob:=s.o) (ev:=a.eval) (fun x e hx=>hs.ev hx) hy;have hzv:=cz hs.wok (fun x e hx=>hs.ev hx) hz;have hob:=hs.wok.objs id _ hl;obtain⟨es,clock,h1,h2,h3,h4,h5⟩:=hob;have hes:∀u∈es.toList,IsKey kd u.key:=fun u hu=>hks _ (by rw[←h3];exact acm hu)
 have hf:=jU hk es.toList 0 hes;rw[h3] at hf;have key3:∃(es':Array MapEntry)(clock':Nat),(Instr.mapUpdate T (.map (some (E.blk id))) key (a.eval z)).run P w=.ok () (setBlock w (E.blk id) (.map es' clock'))∧es'.toList.map (·.key)=fY ks key ∧
     (fY ks key).length=(Ju ks vs key a0).length∧(∀(j:Nat) d,(Ju ks vs key a0)[j]?=some d→bJ w (cB M0 (owned E s.o) .pl) ((es'.toList.map (·.val)).getD j undef) d):=by
   unfold fY Ju;cases hp:dK ks key with
   | none =>
     rw[hp] at hf;simp[Option.map] at hf;refine⟨es.push ⟨key,a.eval z,clock⟩,clock+1,?_,by simp[h3],by simp[h4],fun j d hd=>?_⟩
     · simp[Instr.mapUpdate,run_underlying hT,MapKept.run_getObj_map h1,run_checkKey hkd hk,run_findKey hkd hf,MapKept.run_setObj_map _ h1,Result.andThen,setBlock]
     · have hvl : (es.toList.map (·.val)).length = vs.length := by rw [← h4, ← h3]; simp
       simp only[Array.toList_push,aas,acD];rw[aag];rcases aaK j vs.length with hj|hj
       · rw [aaH acK] at hd
         rw[aaH acK,←aag];exact h5 j d hd
       · rw [aaE hj] at hd
         rw[aaE acK,hvl];cases hj0:j-vs.length with
         | zero=>rw[hj0] at hd;simp only[aaN,aaj] at hd;subst hd;exact hzv
         | succ q=>rw[hj0] at hd;simp at hd
   | some i =>
     rw[hp] at hf;simp[Option.map] at hf;have hki:=eP hp;rw[←h3,aap,aao] at hki;obtain⟨e0,he0,hek⟩:=hki;rw[aaS] at he0;have hkeys:(es.modify i fun e=>{ e with key:=key,val:=a.eval z }).toList.map (·.key)=ks:=by
       rw[modify_keys i _ (fun e he=>by rw[he0] at he;simp only[aaj] at he;subst he;exact hek.symm),h3]
     refine⟨es.modify i fun e=>{ e with key:=key,val:=a.eval z },clock,?_,hkeys,by simp[h4],fun j d hd=>?_⟩
     · have hst := run_keyThatStays (P := P) (w := w) hk
       simp[Instr.mapUpdate,run_underlying hT,MapKept.run_getObj_map h1,run_checkKey hkd hk,run_findKey hkd hf,MapKept.run_setObj_map _ h1,Result.andThen,setBlock,he0,hek,hst]
     · have hvl : (es.toList.map (·.val)).length = vs.length := by rw [← h4, ← h3]; simp
       rw[List.getElem?_set] at hd;rw[aag,aap,aaS,Array.getElem?_modify];split at hd
       · rename_i hij
         subst hij;rw[if_pos rfl,he0];split at hd
         · simp only[aaj] at hd;subst hd;exact hzv
         · cases hd
       · rename_i hij
         rw[if_neg hij,←aaS,←aap,←aag];exact h5 j d hd
 obtain⟨es',clock',hrun,hkeys,hlen,hreps⟩:=key3;unfold Oper.wp;have hexec:(execOp a.eval o).run P w=.ok .skip (setBlock w (E.blk id) (.map es' clock')):=by
   simp[execOp,ho,hxv,hyv,hrun,Result.andThen]
 rw[hexec];simp only[Oper.upon,hd,Act.put];have hgrow:w.grownBy (setBlock w (E.blk id) (.map es' clock')) (some (E.blk id)):=⟨rfl,rfl,rfl,by simp[setBlock],fun i _ hi=>heap_setBlock_other h1 _ (fun e=>hi (by rw[e]))⟩;refine⟨E,hs.cC false (fun _=>⟨rfl,.inr (.inr ⟨ks,vs,_,_,hl,rfl⟩)⟩) hnd aa (fun i hi=>⟨rfl,rfl⟩) (.inr J) (some (E.blk id)) hgrow (fun _=>aak _) (fun g hg=>⟨_,hl,by simpa[bE] using hg⟩) (fun b hb=>.inl ⟨_,hl,hb⟩) (fun rep sv=>?_)⟩;exact⟨es',clock',heap_setBlock_same h1 _,h2,hkeys,hlen,fun j d hj=>rep .pl _ _ (hreps j d hj) (by simp)⟩
theorem Al {w:World}{M:Nat→Prop}(hT:P.underlying T=some (.map kt et))(hkd:P.underlying kt=some kd)(hz:(P.info? et).bind (·.zero)=some u)(hu:u.oneCell'=true)
   (hr:bJ w M v (.mp ks vs))(hk:IsKey kd key)(hks:∀q∈ks,IsKey kd q):∃r,bJ w M r (s5 (.sc u) ks vs key)∧∀ok,(Instr.lookup T v key ok).run P w=.ok (if ok=true then .tuple #[r,.bool (Jv ks key)] else r) w:=by
 cases hr with
 | mp b es clock ks vs hM hb h1 h3 h4 h5 =>
   have hes:∀u∈es.toList,IsKey kd u.key:=fun u hu=>hks _ (by rw[←h3];exact acm hu)
   have hf:=jU hk es.toList 0 hes;rw[h3] at hf;cases hi:P.info? et with
   | none=>rw[hi] at hz;cases hz
   | some it =>
     rw[hi] at hz;simp only[abO] at hz;unfold s5 Jv;cases hp:dK ks key with
     | none =>
       rw[hp] at hf;refine⟨u,.sc u hu,fun ok=>?_⟩;cases ok<;>simp[Instr.lookup,run_underlying hT,MapKept.run_getObj_map h1,run_checkKey hkd hk,run_findKey hkd hf,Result.andThen,zeroValue,typeInfo,hi,hz]
     | some j =>
       rw[hp] at hf;have hkj:=eP hp;have hj:j<vs.length:=by rw[←h4];exact(aaz.1 hkj).1
       refine⟨(es.toList.map (·.val)).getD j undef,?_,fun ok=>?_⟩
       · have := h5 j vs[j] (aal hj)
         show bJ w M _ (vs.getD j (AV.sc u));rw[aag (l:=vs),aal hj];exact this
       · cases ok<;>simp[Instr.lookup,run_underlying hT,MapKept.run_getObj_map h1,run_checkKey hkd hk,run_findKey hkd hf,Result.andThen]
theorem xl (ho:o.op=.lookup T x y false)(hT:P.underlying T=some (.map kt et))(hkd:P.underlying kt=some kd)(hz:(P.info? et).bind (·.zero)=some u)(hu:u.oneCell'=true)
  (hx:viewAt ρ ob x=some (c,.mp ks vs))(hy:aZ ρ y=some key)(hk:IsKey kd key)(hks:∀q∈ks,IsKey kd q)(ha:s5 (.sc u) ks vs key=a0):Pure P w0 M0 o ρ ob (.v c a0) :=
 aD fun E w ev hw h=>by
  have hyv:ev y=key:=bK h hy;obtain⟨r,h1,h2⟩:=Al hT hkd hz hu (cz hw h hx) hk hks;refine⟨r,w,by simp[execOp,ho,hyv,h2 false],.refl _ _,?_⟩;rw[←ha];exact h1
theorem Dz {b0:Bool}(ho:o.op=.lookup T x y true)(hT:P.underlying T=some (.map kt et))(hkd:P.underlying kt=some kd)(hz:(P.info? et).bind (·.zero)=some u)(hu:u.oneCell'=true)
  (hx:viewAt ρ ob x=some (c,.mp ks vs))(hy:aZ ρ y=some key)(hk:IsKey kd key)(hks:∀q∈ks,IsKey kd q)(ha:s5 (.sc u) ks vs key=a0)(hb:Jv ks key=b0):Pure P w0 M0 o ρ ob (.v c (.tup [a0,.sc (.bool b0)])) :=
 aD fun E w ev hw h=>by
  have hyv:ev y=key:=bK h hy;obtain⟨r,h1,h2⟩:=Al hT hkd hz hu (cz hw h hx) hk hks;refine⟨.tuple #[r,.bool (Jv ks key)],w,by simp[execOp,ho,hyv,h2 true],.refl _ _,?_⟩;refine .tup [r,.bool (Jv ks key)] _ J fun j d hj=>?_
  match j with
  | 0=>simp only[aaN,aaj] at hj;subst hj;rw[←ha];exact h1
  | 1=>simp only[abw,aaN,aaj] at hj;subst hj;rw[←hb];exact .sc _ rfl
  | j+2=>simp at hj
theorem Jw (ho:o.op=.call { callee:=.builtin .len,args:=#[x],argTypes:=#[T] })(hT:P.underlying T=some (.map kt et))(hx:viewAt ρ ob x=some (c,.mp ks vs)):Pure P w0 M0 o ρ ob (.v .pl (int ks.length)) :=
 aD fun E w ev hw h=>by
   have hr:=cz hw h hx;generalize hq:ev x=q at hr;cases hr with
   | mp b es clock ks vs hM hb h1 h3 h4 h5 =>
     refine⟨.int .i64 es.size,w,?_,.refl _ _,?_⟩
     · simp[execOp,ho,hq,resolve,invoke,builtin,Builtin.len_,goInt,run_underlying hT,MapKept.run_getObj_map h1,Result.andThen]
     · have : ks.length = es.size := by rw [← h3]; simp
       rw[this];exact .sc _ rfl
def DA (o o':List (Nat×Ob)):SV→Option AV
 | .v .pl d=>some d
 | .v _ (.sc u)=>some (.sc u)
 | .own id => match o.lookup id, o'.lookup id with
   | some (.arr _ xs),none=>some (.sl xs)
   | _,_=>none
 | .omap id => match o.lookup id, o'.lookup id with
   | some (.mp ks vs),none=>some (.mp ks vs)
   | _,_=>none
 | _=>none
def LN (o o':List (Nat×Ob)):List SV→Option (List AV)
 | []=>some []
 | d :: r => match DA o o' d, LN o o' r with
   | some a,some az=>some (a :: az)
   | _,_=>none
def RA (o o':List (Nat×Ob)):SV→Option AV
 | .pbox id off => match o.lookup id, o'.lookup id with
   | some (.box _ cs), none => match LN o o' cs with
     | some az=>some (.pc az off)
     | none=>none
   | _,_=>none
 | d=>DA o o' d
theorem DB {o o':List (Nat×Ob)}:∀{l:List SV}{az:List AV},LN o o' l=some az→l.length=az.length∧∀(j:Nat) a,az[j]?=some a→∃d,l[j]?=some d∧DA o o' d=some a
 | [],az,h=>by simp only[LN,aaj] at h;subst h;exact⟨rfl,fun j a h=>by simp at h⟩
 | d :: r, az, h => by
   unfold LN at h;split at h
   · rename_i a1 as1 h1 h2
     simp only[aaj] at h;subst h;obtain⟨g1,g2⟩:=DB h2;refine⟨by simp[g1],fun j a hj=>?_⟩;cases j with
     | zero=>simp only[aaN,aaj] at hj;subst hj;exact⟨d,rfl,h1⟩
     | succ j=>exact g2 j a (by simpa using hj)
   · cases h
section
variable {w:World} {E:Env}{o o':List (Nat×Ob)}
theorem r9 (hw:gr P w0 M0 E o w)(ho:∀id ob,o'.lookup id=some ob→o.lookup id=some ob)(aa:∀b,M0 b→b<w0.w.heap.size){id b:Nat}{ob0:Ob}(h:o.lookup id=some ob0)(hn:o'.lookup id=none)(hb:bE E id b ob0) :
  ¬cB M0 (owned E o') .pl b:=by
 rintro(h1|⟨i,obx,h1,h2⟩)
 ·exact((hw.objs id _ h).dx hb).1.2 h1
 ·have:=hw.disj i obx id ob0 b (ho i obx h1) h h2 hb;subst this;rw[hn] at h1;cases h1
theorem HS (hw:gr P w0 M0 E o w)(ho:∀id ob,o'.lookup id=some ob→o.lookup id=some ob)(aa:∀b,M0 b→b<w0.w.heap.size){d:SV}{a:AV}(h:bm P M0 w E o v d)(hd:DA o o' d=some a) :
  bJ w (cB M0 (owned E o') .pl) v a:=by
 have hown:∀b,owned E o' b→owned E o b:=fun b ⟨id,ob,h1,h2⟩=>⟨id,ob,ho id ob h1,h2⟩
 unfold DA at hd;split at hd
 ·simp only[aaj] at hd;subst hd;exact bJ.cd h (dO hown .pl)
 ·simp only[aaj] at hd;subst hd;cases h;exact .sc _ ‹_›
 ·rename_i id;split at hd
  ·rename_i e xs hl hn;simp only[aaj] at hd;subst hd;rw[h e xs hl];exact(hw.objs id _ hl).rep (dO hown .pl) (fun g hg=>r9 hw ho aa hl hn hg)
  ·cases hd
 ·rename_i id;split at hd
  ·rename_i ks vs hl hn;simp only[aaj] at hd;subst hd;rw[h ks vs hl];have hlt:=((hw.objs id _ hl).dx rfl).2;obtain⟨es,clock,h1,h2,h3,h4,h5⟩:=hw.objs id _ hl;exact .mp _ es clock ks vs (r9 hw ho aa hl hn J) hlt h1 h3 h4 fun j d hd=>(h5 j d hd).cd (dO hown .pl)
  ·cases hd
 ·cases hd
theorem Jx {d:SV}{a:AV}(hd:DA o o' d=some a)(hl:SV.leaf d=true):AV.leaf a=true:=by
 unfold DA at hd;split at hd
 ·simp only[aaj] at hd;subst hd;exact hl
 ·simp only[aaj] at hd;subst hd;rfl
 ·split at hd
  ·simp only[aaj] at hd;subst hd;rfl
  ·cases hd
 ·split at hd
  ·simp only[aaj] at hd;subst hd;rfl
  ·cases hd
 ·cases hd
theorem LO (hw:gr P w0 M0 E o w)(ho:∀id ob,o'.lookup id=some ob→o.lookup id=some ob)(aa:∀b,M0 b→b<w0.w.heap.size){d:SV}{a:AV}(h:bm P M0 w E o v d)(hd:RA o o' d=some a) :
   bJ w (cB M0 (owned E o') .pl) v a:=by
 unfold RA at hd;split at hd
 · rename_i id off
   split at hd
   · rename_i e cs hl hn
     split at hd
     · rename_i az has
       simp only[aaj] at hd;subst hd;rw[h e cs hl];have hlt:=((hw.objs id _ hl).dx rfl).2;obtain⟨vals,h1,h2,h3,h4⟩:=hw.objs id _ hl;obtain⟨g1,g2⟩:=DB has;have:=bJ.pc (w:=w) (M:=cB M0 (owned E o') .pl) (E.blk id) 0 off az (fun j=>vals.getD j undef) (r9 hw ho aa hl hn rfl) hlt (fun j hj=>?_) (fun j a hj=>?_) (fun j a hj=>?_)
       · rw[abg] at this;exact this
       · have hj' : j < vals.length := acK
         rw[cell_of_row w _ _ _ e (0,0) h1];simp[aag,aal hj']
       · obtain ⟨d, hd1, hd2⟩ := g2 j a hj
         exact Jx hd2 (h4 j d hd1).1
       · obtain ⟨d, hd1, hd2⟩ := g2 j a hj
         exact HS hw ho aa (h4 j d hd1).2.2 hd2
     · cases hd
   · cases hd
 · exact HS hw ho aa h hd
end
def DC (s:St)(o':List (Nat×Ob)):List (Nat×SV)→Prop
 | []=>True
 | (t,d) :: r=>(s.s.lookup t=some d∨∃q a,s.s.lookup t=some q∧RA s.o o' q=some a∧d=.v .pl a)∧DC s o' r
theorem DC.out {s:St}{o':List (Nat×Ob)}:∀{l:List (Nat×SV)},DC s o' l→∀t d,l.lookup t=some d→s.s.lookup t=some d∨∃q a,s.s.lookup t=some q∧RA s.o o' q=some a∧d=.v .pl a
 | [],_,t,d,h=>by simp at h
 | (u, e) :: r, h, t, d, hl => by
   rw[aj] at hl;split at hl
   · rename_i he
     subst he;simp only[aaj] at hl;subst hl;exact h.1
   · exact DC.out h.2 t d hl
theorem BM {s:St}{l:List (Nat×SV)}{o':List (Nat×Ob)}(aa:∀b,M0 b→b<w0.w.heap.size)(hl:DC s o' l)(ho:wg s o'):fF P w0 M0 s ⟨s.n,l,o'⟩:=by
 rintro a w ⟨E,hs⟩;have ho':=ho.out;obtain⟨E1,h1⟩:=sU (P:=P) (w0:=w0) (M0:=M0) (s:=s) (l:=[]) (o':=o') trivial ho a w ⟨E,hs⟩;have h2:ba P w0 M0 E ⟨s.n,[],o'⟩ a w:=by
   have hown:∀b,owned E o' b→owned E s.o b:=fun b ⟨id,ob,h1,h2⟩=>⟨id,ob,ho' id ob h1,h2⟩
   refine⟨hs.size,hs.defers,fun t d ht=>by simp at ht,fun id ob hid=>?_,fun id ob id' ob' b h1 h2=>hs.wok.disj id ob id' ob' b (ho' _ _ h1) (ho' _ _ h2),hs.wok.below,hs.wok.pins⟩;have:=hs.wok.objs id ob (ho' id ob hid);cases ob with
   | arr e xs =>
     obtain⟨vals,h1,h2,h3⟩:=this;exact⟨vals,h1,h2,fun j d hd=>⟨(h3 j d hd).1,(h3 j d hd).2.cd (dO hown .pl)⟩⟩
   | box e cs =>
     obtain⟨vals,h1,h2,h3,h4⟩:=this;exact⟨vals,h1,h2,h3,fun j sv hj=>⟨(h4 j sv hj).1,(h4 j sv hj).2.1,(h4 j sv hj).2.2.mN ho'⟩⟩
   | mp ks vs =>
     obtain⟨es,clock,h1,h2,h3,h4,h5⟩:=this;exact⟨es,clock,h1,h2,h3,h4,fun j d hd=>(h5 j d hd).cd (dO hown .pl)⟩
   | nar e cs ln =>
     obtain⟨n,vals,h1,h2,h3,h4,h5⟩:=this;exact⟨n,vals,h1,h2,h3,h4.cd hown,h5⟩
   | nmp ks cs ln =>
     obtain⟨es,clock,h1,h2,h3,h4,h5,h6,h7⟩:=this;exact⟨es,clock,h1,h2,h3,h4,h5,h6.cd hown,h7⟩
 refine⟨E,h2.size,h2.defers,fun t d ht=>?_,h2.wok⟩;rcases hl.out t d ht with h|⟨q,av,h3,h4,rfl⟩
 · have := hs.slots t d h
   exact⟨this.1,this.2.mN ho'⟩
 · have := hs.slots t q h3
   exact⟨this.1,LO hs.wok ho' aa this.2 h4⟩
theorem ku {ops:Array Oper}{Q:St→Prop}{l':List Oper}(n:Nat)(l:List (Nat×SV))(o':List (Nat×Ob))(aa:∀b,M0 b→b<w0.w.heap.size)(hn:s.n=n)(hl:DC s o' l)(ho:wg s o')(h:kr P w0 M0 ops Q l' ⟨n,l,o'⟩):kr P w0 M0 ops Q l' s:=by subst hn;exact kr.imp (BM aa hl ho) h
theorem aI {y:Code}(n:Nat)(l:List (Nat×SV))(o':List (Nat×Ob))(aa:∀b,M0 b→b<w0.w.heap.size)(hn:s.n=n)(hl:DC s o' l)(ho:wg s o')(h:ao P w0 M0 y ⟨n,l,o'⟩ Q):ao P w0 M0 y s Q:=by subst hn;exact ao.imp (BM aa hl ho) h
/- Short forms, so that a claim stays within its bound on bytes. -/
theorem dq:(∀ (p:Prop) [Decidable p],(decide p=true)=p)∧(∀(p:Prop) [Decidable p],(decide p=false)=¬p)∧(∀b:Bool,((!b)=true)=(b=false))∧(∀b:Bool,((!b)=false)=(b=true))∧(∀a b:Bool,((a&&b)=true)=(a=true∧b=true))∧(∀a b:Bool,((a||b)=true)=(a=true∨b=true))∧(∀a b:Bool,((a&&b)=false)=(a=false∨b=false))∧(∀(α β:Type)(f:α→β)(l:List α),(l.map f).length=l.length)∧(∀n:Nat,(n:Int).toNat=n) :=
 ⟨fun p _=>decide_eq_true_eq,fun p _=>propext decide_eq_false_iff_not,fun b=>aa5 b,fun b=>Bool.not_eq_false' b,fun a b=>aax a b,fun a b=>aba a b,fun a b=>propext Bool.and_eq_false_iff,fun _ _ f l=>aai f,abC⟩
theorem ll:(∀ (α β:Type)(f:α→β)(l:List α),(l.map f).length=l.length)∧(∀(α:Type)(a b:List α),(a++b).length=a.length+b.length)∧(∀(α:Type)(a:α)(b:List α),(a :: b).length=b.length+1)∧(∀α:Type,([]:List α).length=0)∧(∀(α:Type)(l:List α)(i:Nat)(a:α),(l.set i a).length=l.length)∧(∀(α:Type)(n:Nat)(a:α),(List.replicate n a).length=n)∧(∀(α:Type)(l:List α)(i:Nat),(l.take i).length=min i l.length)∧(∀(α:Type)(l:List α)(i:Nat),(l.drop i).length=l.length-i)∧(∀n:Nat,(List.range n).length=n) :=
 ⟨fun _ _ f l=>aai f,fun _ _ _=>aar,fun _ _ _=>aam,fun _=>rfl,fun _ _ _ _=>ab3,fun _ _ _=>abo,fun _ _ _=>aau,fun _ _ _=>aaw,fun _=>aaA⟩
end
def sa:List AV→Option (List Int)
 | []=>some []
 | .sc (.int .u8 n) :: r => match sa r with
   | some l=>some (n :: l)
   | none=>none
 | _=>none
theorem vt:∀ {xs:List AV}{l:List Int},sa xs=some l→xs=l.map fun n=>.sc (.int .u8 n)
 | [],l,h=>by simp only[sa,aaj] at h;subst h;rfl
 | x :: r, l, h => by
   unfold sa at h;split at h
   · rename_i heq;cases heq
   · rename_i n r' heq
     cases heq;split at h
     · rename_i l' hl
       simp only[aaj] at h;subst h;rw[aa6,←vt hl]
     · cases h
   · cases h
theorem PE {α:Type}(f:α→Value)(l:List α):flat (l.map fun x=>.sc (f x))=l.map fun x=>.sc (f x):=by
 induction l with
 | nil=>rfl
 | cons a r ih=>simp only[aa6,flat,abt] at ih ⊢;rw[ih];rfl
variable{n:Nat}
section
variable {P:Program} {w0:Fr}{M0:Nat→Prop}
variable {o:Oper} {ρ:Operand→Option SV}{ob:List (Nat×Ob)}{x:Operand}{T T' e:TypeId}{c:fW}{xs:List AV}{l:List Int}
theorem uj (ho:o.op=.convert T T' x) (hT:P.underlying T=some (.slice e)) (he:P.underlying e=some (.int .u8)) (hT':P.underlying T'=some .string) (hx:viewAt ρ ob x=some (c,.sl xs)) (hn:sa xs=some l) :
   Pure P w0 M0 o ρ ob (.v .pl (ah (l.map fun n=>UInt8.ofNat n.toNat))) :=
 aD fun E w ev hw h=>by
   have hr:=cz hw h hx;have hxs:=vt hn;subst hxs;generalize hq:ev x=q at hr;cases hr with
   | sl a n cap _ k cv hn' hc hk hb hl hr =>
     refine⟨.string (strOfNums l),w,?_,.refl _ _,.sc _ J⟩;simp only[aai] at hn';rw[PE] at hr;have key:∀dst,P.underlying dst=some .string→(convert T dst (.slice a n cap)).run P w=.ok (.string (strOfNums l)) w:=by
       rcases aby n with h0|h0
       · intro dst hd
         have hl0:l=[]:=aaD acK;subst h0 hl0;cases a with
         | none=>exact run_convert_bytes_nil (P:=P) w T e hT he 0 cap dst hd
         | some ad=>rw[run_convert_bytes_string w T dst e _ 0 cap hT he hd,run_bytesToString w ad 0 cap [] (by simpa using run_loadCells_list (P:=P) w ad [] (by simp))];rfl
       · obtain ⟨b, off, rfl, _, _, hcell⟩ := hb h0
         have hk1:k=1:=by
           cases l with
           | nil=>simp at hn';omega
           | cons z r=>exact(hk _ (by rw[aa6];exact aaq)).symm
         subst hk1;refine run_convert_bytes_arg (P:=P) w T e hT he b off n cap l hn' (fun i hi=>?_);rw[hcell i acK];have:=hr i (.sc (.int .u8 (l[i]'acK))) (by rw[aap,aal acK];rfl);generalize cv i=u at this;cases this;simp[aag,aal (show i<l.length by omega)]
     simp[execOp,ho,hq,key T' hT']
theorem LP {α:Type}{s:St}{y:Operand}{f:α→AV}{l:List α}(hy:viewAt s.ev s.o y=some (c,.sl ((l.map f).take n)))(hf:∀x,∃v,f x=.sc v):Src P w0 M0 s y 1 ((l.take n).map f):=by rw[←List.map_take] at hy;exact s4 hy hf
end
open Go.Sort Go.Proofs
section
variable {α:Type} [Inhabited α]{enc:α→Value}
theorem fH (w:World)(blk off m:Nat)(dk:Array α)(os:Array Obj):(sortWorld enc w blk off m dk os).heap.size=w.heap.size+os.size:=by simp[sortWorld,grow,putRow,mapBlock,Sort.ahead]
theorem eQ (w:World)(blk off m:Nat)(dk:Array α)(os:Array Obj){k:Nat}(hk:k≠blk)(hs:k<w.heap.size):(sortWorld enc w blk off m dk os).heap[k]?=w.heap[k]?:=by simp only[sortWorld,grow,putRow,mapBlock,Sort.ahead];rw[abS (by simpa using hs),Array.getElem?_modify,if_neg (fun h=>hk h.symm)]
theorem jV (w:World)(blk off m:Nat)(dk:Array α)(os:Array Obj){c:Array Value}{e:TypeId}{fr:Nat×Nat}(h:w.heap[blk]?=some (.cells c e fr)):(sortWorld enc w blk off m dk os).heap[blk]?=some (.cells (putCells enc off dk c) e fr):=by have hs:=(aaV.1 h).1;simp only[sortWorld,grow,putRow,mapBlock,Sort.ahead];rw[abS (by simpa using hs),Array.getElem?_modify,if_pos rfl,h];rfl
theorem rI {w w':World}(h:Below w.heap.size w w'):∃q os,w'=grow (w.drewN q) os:=by
 refine⟨w'.drawn-w.drawn,w'.heap.extract w.heap.size w'.heap.size,?_⟩;have hheap:w'.heap=w.heap++w'.heap.extract w.heap.size w'.heap.size:=by
  apply Array.ext_getElem?;intro k;rcases aaK k w.heap.size with hk|hk
  ·rw[abS hk,h.block k hk]
  ·rw[Array.getElem?_append_right hk,Array.getElem?_extract];have:=h.size;split
   ·congr 1;omega
   ·rw[ab9];omega
 have hd:=h.drawn trivial;obtain⟨h1,h2,h3,_,_⟩:=h.toBelow;cases w';simp only[grow,World.drewN] at *
 congr
 omega
end
section
variable {P:Program} {w0:Fr}{M0:Nat→Prop}
variable {o:Oper} {s:St}{x y:Operand}{T T' e:TypeId}{c:fW}{id t:Nat}
theorem BN {α:Type}(f:α→Value):∀l:List α,flat (l.map fun z=>AV.sc (f z))=l.map fun z=>.sc (f z)
 | []=>rfl
 | a :: r => by
   have ih:=BN f r;simp only[flat,aa6,abt,AV.cells,abN,abz] at ih ⊢;rw[ih]
end
section
variable {P:Program} {w0:Fr}{M0:Nat→Prop}{s:St}
theorem F8 (b j K:Nat)(e eb:TypeId){cs:List SV}(aa:∀b,M0 b→b<w0.w.heap.size)(hnd:Nodup s.s=true)(hb:(s.cC true K (.arr e [])).o.lookup b=some (.box eb cs))(hj:cs[j]?=some (.v .pl (.sc (.slice none 0 0))))
  (hnd':Nodup (s.cC true K (.arr e [])).s=true):fF P w0 M0 s ((s.cC true K (.arr e [])).cC false b (.box eb ((c5 b cs).set j (.own K)))):=by
 rintro a w ⟨E,hs⟩;have h1:=hs.ox (t:=K) (e:=e) (xs:=[]) (v:=.slice none 0 0) hnd aa (w':=w) ⟨rfl,rfl,rfl,aak _,fun _ _ _=>rfl⟩ (fun _=>aak _) (vals:=[]) (World.ownsRow_nil w _ _ _) (fun b hb=>by cases hb) (fun x hx=>by cases hx) (fun j d hd=>by simp[flat] at hd);generalize hE1:({ E with cur:=fun i=>if i=K then .slice none 0 0 else E.cur i }:Env)=E1 at h1;have hc:E1.cur K=.slice none 0 0:=by rw[←hE1];simp
 refine⟨E1,h1.cC false (fun _=>⟨rfl,.inr (.inl ⟨eb,cs,_,hb,rfl⟩)⟩) hnd' aa (fun i hi=>⟨rfl,rfl⟩) (.inr J) none ⟨rfl,rfl,rfl,aak _,fun _ _ _=>rfl⟩ (fun _=>aak _) (fun g hg=>by cases hg) (fun b' hb'=>.inl ⟨_,hb,hb'⟩) (fun rep sv=>?_)⟩;obtain⟨vals,g1,g2,g3,g4⟩:=h1.wok.objs b _ hb;refine⟨vals,g1,g2,by simpa[c5] using g3,fun i d hd=>?_⟩;by_cases hi:j=i
 ·subst hi;have hjl:j<cs.length:=(aaz.1 hj).1;rw[abI (by simpa[c5] using hjl)] at hd;simp only[aaj] at hd;subst hd;have:=g4 j _ hj;refine⟨rfl,this.2.1,fun e' xs' _=>?_⟩;rw[hc];have h5:bJ w _ (vals.getD j undef) (.sc (.slice none 0 0)):=this.2.2;generalize vals.getD j undef=u at h5 ⊢;cases h5;rfl
 ·rw[abL hi] at hd;simp only[c5,aap,aao] at hd;obtain⟨d0,hd0,rfl⟩:=hd;have:=g4 i d0 hd0;split
  ·exact⟨this.1,this.2.1,sv _ _ this.2.2 ‹_›⟩
  ·exact⟨rfl,this.2.1,trivial⟩
theorem bG {y:Code}(b j K:Nat)(e eb:TypeId){cs:List SV}(aa:∀b,M0 b→b<w0.w.heap.size)(hnd:Nodup s.s=true)(hb:(s.cC true K (.arr e [])).o.lookup b=some (.box eb cs))(hj:cs[j]?=some (.v .pl (.sc (.slice none 0 0))))
  (hnd':Nodup (s.cC true K (.arr e [])).s=true)(h:ao P w0 M0 y ((s.cC true K (.arr e [])).cC false b (.box eb ((c5 b cs).set j (.own K)))) Q):ao P w0 M0 y s Q :=
 ao.imp (F8 b j K e eb aa hnd hb hj hnd') h
end
section
variable {P:Program} {w0:Fr}{M0:Nat→Prop}{s:St}
variable {o:Oper} {ρ:Operand→Option SV}{ob:List (Nat×Ob)}{x y z:Operand}{T e:TypeId}{k:Nat}{xs:List AV}{id:Nat}
theorem bj {c:fW}{b b':Bool}(h:Pure P w0 M0 o ρ ob (.v c (bool b)))(e:b=b'):Pure P w0 M0 o ρ ob (.v c (bool b')):=by subst e;exact h
theorem ia {cx:Operand}{args:Array Operand}{ats:Array TypeId}{c:fW}{f:FuncId}{caps ds:List AV}{b b':Bool}
  (ho:o.op=.call { callee:=.value cx,args:=args,argTypes:=ats })(hc:ρ cx=some (.v c (.clo f caps)))(ha:jg ρ ob args.toList=some ds)(h:ak P f (ds++caps) (.p (bool b)))
  (aa:∀b,M0 b→b<w0.w.heap.size)(e:b=b'):Pure P w0 M0 o ρ ob (.v .pl (bool b')):=by
 subst e;exact cm ho hc ha h aa
theorem ib {q':IntKind}{j:Int}(ho:o.op=.slice T x none (some z) none)(hT:P.underlying T=some (.slice e))(hk:bY P e=some k)(hx:ρ x=some (.own id))(hl:ob.lookup id=some (.arr e xs))(hz:aZ ρ z=some (.int q' j))(h:0≤j∧j≤xs.length) :
  Pure P w0 M0 o ρ ob (.vsl id 0 j.toNat) :=
 aD fun E w ev hw hh=>by
  have hr:=hh x _ hx e xs hl;have hz':=bK hh hz;obtain⟨vals,⟨hown,hownF⟩,h2,h3⟩:=hw.objs id _ hl;have hu:∃a cap,E.cur id=.slice a xs.length cap∧xs.length≤cap:=by
   rcases hown.2 with⟨hv,hn⟩|⟨g,cap,cur,hv,hgb,hh,hnc,_⟩
   ·exact⟨none,0,by rw[hv,hn],acK⟩
   ·exact⟨_,cap,hv,hnc⟩
  obtain⟨a,cap,hv,hc⟩:=hu;have hrun:(Instr.slice T (.slice a xs.length cap) none (some (.int q' j)) none).run P w=.ok (sliced a 0 j.toNat cap k) w:=by
   have hj:0≤j∧j≤(cap:Int):=acK;simp[Instr.slice,run_underlying hT,Instr.sliceBounds,run_sliceBound,hj,dt hk,sliced]
  have hel:P.elem T=e:=by simp[Program.elem,hT]
  refine⟨sliced a 0 j.toNat cap k,w,?_,.refl _ _,fun e' xs' hl'=>?_⟩
  ·simp only[execOp,ho,hr,hv,hz',aa3,Option.map_none,Sem.run_bind,run_sliceAt_slice (P:=P) (w:=w) T _ _ _ _ (by rw[hel];exact hT),hrun,Result.andThen_ok,Sem.run_pure]
  ·rw[hl] at hl';simp only[aaj,Ob.arr.injEq] at hl';obtain⟨rfl,rfl⟩:=hl';exact⟨acK,a,_,cap,hv,by rw[cL hk,abg]⟩
theorem Jy (a:Addr):a.add 0=a:=by
 unfold Addr.add
 (repeat' split)<;>simp_all
theorem ba.DD {E:Env}{a:Act}{w:World}{t:Nat}{d:SV}(h:ba P w0 M0 E s a w)(ht:t<s.n)(hv:bm P M0 w E s.o (a.tmps.getD t undef) d):ba P w0 M0 E (s.put t d) a w:=by
 refine⟨h.size,h.defers,fun u e he=>?_,h.wok⟩;simp only[St.put] at he ⊢;rw[ax] at he;split at he
 ·rename_i hu;subst hu;simp only[aaj] at he;subst he;exact⟨ht,hv⟩
 ·exact h.slots u e he
theorem Jz {t:Nat}(ht:s.s.lookup t=some (.vsl id 0 n))(hl:s.o.lookup id=some (.arr e xs))(aa:∀b,M0 b→b<w0.w.heap.size)(hnd:Nodup s.s=true):fF P w0 M0 s ((s.cC true id (.arr e (xs.take n))).put t (.own id)):=by
 rintro a w ⟨E,hs⟩;obtain⟨htn,hsv⟩:=hs.slots t _ ht;obtain⟨hle,ad,len,cap,hc,hv⟩:=hsv e xs hl;rw[abg] at hle;obtain⟨vals,⟨h1,hownF⟩,h2,h3⟩:=hs.wok.objs id _ hl;have hv':a.tmps.getD t undef=.slice ad n cap:=by
  rw[hv];unfold sliced;simp only[Nat.zero_mul,abg,ab7,Value.slice.injEq,and_true];cases ad with
  | none=>simp
  | some p=>split<;>simp[Jy]
 have hob:(Value.slice ad n cap).ownBlock=(E.cur id).ownBlock:=by rw[hc];cases ad<;>rfl
 have hmul:n*P.cellsOf e≤xs.length*P.cellsOf e:=abl _ hle;have hown:w.ownsRow 0 e (P.cellsOf e) (.slice ad n cap) (xs.take n).length (vals.take (n*P.cellsOf e)):=by
  obtain⟨hvl,hform⟩:=h1;refine⟨by rw[aau,aau,acq acK,acq hle],?_⟩;have hxl:(xs.take n).length=n:=by simp;omega
  rw[hxl];rcases hform with⟨hv0,hn0⟩|⟨g,cap',cur,hv0,hgb,hh,hnc,hcm,hcs,htake⟩
  ·rw[hv0] at hc;simp only[Value.slice.injEq] at hc;obtain⟨rfl,rfl,rfl⟩:=hc;exact .inl ⟨by rw[show n=0 by omega],acK⟩
  ·rw[hv0] at hc;simp only[Value.slice.injEq] at hc;obtain⟨rfl,rfl,rfl⟩:=hc;refine .inr ⟨g,cap',cur,rfl,hgb,hh,acK,hcm,hcs,?_⟩;rw[←htake,List.take_take,acq hmul]
 have h4:=hs.cC (E':={ E with cur:=fun i=>if i=id then .slice ad n cap else E.cur i }) (w':=w) (id:=id) (ob':=.arr e (xs.take n)) true (fun h=>by cases h) hnd aa (fun j hj=>⟨by simp[hj],rfl⟩) (.inr rfl) none ⟨rfl,rfl,rfl,aak _,fun _ _ _=>rfl⟩ (fun _=>aak _) (fun g hg=>by cases hg) (fun b hb=>.inl ⟨_,hl,by
   simp only[bE,if_true] at hb ⊢;rw[←hob];exact hb⟩) (fun rep _=>?_)
 ·exact⟨_,h4.DD (by simpa[St.cC] using htn) (by rw[hv'];exact ff)⟩
 ·refine⟨vals.take (n*P.cellsOf e),⟨by simp only[if_true];exact hown,fun b hb=>hownF b (by simp only[if_true] at hb;rw[←hob];exact hb)⟩,fun x hx=>h2 x (abv hx),fun j d hd=>?_⟩;have hjx:(flat xs)[j]?=some d:=by
   rw[←abn n xs,gg,aaH (aaz.1 hd).1];exact hd
  have hjl:j<n*P.cellsOf e:=by
   have h4:=(aaz.1 hd).1;rw[bO _ (fun x hx=>h2 x (abv hx)),aau,acq hle] at h4;exact h4
  have:=h3 j d hjx;refine⟨this.1,?_⟩;have h6:=rep .pl _ _ this.2 (by simp);rw[aag] at h6;rw[aag,aa1,if_pos hjl];exact h6
theorem pN {ops:Array Oper}{Q:St→Prop}{l':List Oper}(t:Nat)(ht:s.s.lookup t=some (.vsl id 0 n))(hl:s.o.lookup id=some (.arr e xs))(aa:∀b,M0 b→b<w0.w.heap.size)(hnd:Nodup s.s=true)(h:kr P w0 M0 ops Q l' ((s.cC true id (.arr e (xs.take n))).put t (.own id))):kr P w0 M0 ops Q l' s :=
 kr.imp (Jz ht hl aa hnd) h
end
open Go.ChangeShapes Go.WideShapes Go.Deep
variable{r:Reach}{b0:Nat}
section
variable {H:Type} {enc:TypeId×Value→H}{P:Program}{w:World}{base:Nat}{spare:Nat→Bool}{held:Bool}
theorem DE {α:Type}{p:Nat→α→Prop}(n:Nat)(h:∀i,i<n→∃a,p i a):∃l:List α,l.length=n∧∀i a,l[i]?=some a→p i a:=by
 induction n with
 | zero=>exact⟨[],rfl,fun i a h=>by simp at h⟩
 | succ n ih =>
   obtain⟨l,hl,hp⟩:=ih fun i hi=>h i acK
   obtain⟨a,ha⟩:=h n acK;refine⟨l++[a],by simp[hl],fun i b hb=>?_⟩;rcases aaK i n with hi|hi
   · rw [aaH acK] at hb
     exact hp i b hb
   · rw [aaE acK] at hb
     have:i-l.length=0:=by
       have:=(aaz.1 hb).1;simp at this;omega
     rw[this] at hb;simp only[aaN,aaj] at hb;subst hb;rw[show i=n by omega];exact ha
theorem JA {α:Type}{ad:α→AV}{ok:α→Prop}{t e:TypeId}(ht:P.underlying t=some (.slice e))(hc:P.cellsOf e=1)(hleaf:∀a,AV.leaf (ad a)=true∧AV.cells (ad a)=[ad a])
   (hel:∀(n:Nat)(v:Value) x,DataW.trod enc P w base spare held n e [v]=some x→∃a,ok a∧bJ w (fun _=>False) v (ad a)){x:DataW H×List MemPlace}(h:DataW.trod enc P w base spare held n t [v]=some x) :
   ∃l:List α,(∀a∈l,ok a)∧l.length≤9223372036854775807∧bJ w (fun _=>False) v (.sl (l.map ad)):=by
 rcases open_slice1 ht hc h with⟨h1,_⟩|⟨a,len,cap,m,n',V,D,Pl,h1,hb,hl,hm,hmm,hx,hall⟩
 · simp only [acC, and_true] at h1
   subst h1;exact⟨[],fun a ha=>(by cases ha),(by simp),.sl none 0 0 [] 1 (fun _=>undef) J (aak _) (fun x hx=>by cases hx) (fun h=>absurd h acK) (fun j d hd=>by simp[flat] at hd) (fun j d hd=>by simp[flat] at hd)⟩
 · simp only [acC, and_true] at h1
   subst h1;have hlm:len≤m:=by rw[hmm];split<;>omega
   obtain⟨l,hll,hlp⟩:=DE (p:=fun i a=>ok a∧bJ w (fun _=>False) (V i) (ad a)) len fun i hi=>hel n' (V i) _ (hall i acK).2
   have hfl:flat (l.map ad)=l.map ad:=by
     clear hll hlp
     induction l with
     | nil=>rfl
     | cons a r ih=>simp only[flat,aa6,abt] at ih ⊢;rw[ih,(hleaf a).2];rfl
   refine⟨l,fun a ha=>?_,by rw[hll];unfold maxLen at hm;omega,?_⟩
   · obtain ⟨i, hi, rfl⟩ := abd ha
     exact(hlp i _ (aal hi)).1
   · refine .sl (some a) len cap _ 1 V (by simpa using hll) hl (fun x hx => ?_) (fun h0 => ?_) (fun j d hd => ?_) (fun j d hd => ?_)
     · obtain ⟨z, _, rfl⟩ := aaG.1 hx
       rw[(hleaf z).2];rfl
     · have h3 := (hall 0 acK).1
       have h4:w.cell? a=some (V 0):=by simpa[Addr.add] using h3
       obtain⟨b,o,sp⟩:=a;have hsp:sp=none:=World.cell?_spot h4;subst hsp;refine⟨b,o,rfl,fun hf=>hf,World.block_lt_of_cell? w ⟨b,o,none⟩ h4,fun j hj=>?_⟩;have:=(hall j acK).1;rwa [Addr.add_lit] at this
     · rw [hfl, aap, aao] at hd
       obtain⟨z,_,rfl⟩:=hd;exact(hleaf z).1
     · rw [hfl, aap, aao] at hd
       obtain⟨z,hz,rfl⟩:=hd;exact(hlp j z hz).2
theorem DF {e:TypeId}(he:P.underlying e=some (.int .i64))(n:Nat)(v:Value)(x:DataW H×List MemPlace)(h:DataW.trod enc P w base spare held n e [v]=some x) :
  ∃z:Int,(-9223372036854775808≤z∧z≤9223372036854775807)∧bJ w (fun _=>False) v (int z):=by
 obtain⟨z,h1,hx,hw⟩:=DataW.trod_int he h;simp only[acC,and_true] at h1;subst h1;exact⟨z,bounds_i64 hw,.sc _ J⟩
theorem JB {t e:TypeId}(ht:P.underlying t=some (.slice e))(hval:Value.okWide P w r b0 t v):v.cells.toList=[v]:=by obtain⟨a,len,cap,rfl⟩:=okWide_slice ht hval;rfl
theorem PF {t:TypeId}{k:IntKind}(ht:P.underlying t=some (.int k))(hval:Value.okWide P w r b0 t v):v.cells.toList=[v]:=by obtain⟨a,rfl⟩:=okWide_int ht hval;rfl
theorem kv {t e:TypeId}{d:DataW H}{ps:List MemPlace}(ht:P.underlying t=some (.slice e))(he:P.underlying e=some (.int .i64))(hc:bY P e=some 1)(hval:Value.okWide P w r b0 t v)(hd:DataW.Trod enc P w base spare held t v d ps) :
  ∃l:List Int,(∀a∈l,-9223372036854775808≤a∧a≤9223372036854775807)∧l.length≤9223372036854775807∧bJ w (fun _=>False) v (.sl (l.map int)):=by
 obtain⟨n,hn⟩:=hd;rw[JB ht hval] at hn;exact JA ht (cL hc) (fun a=>⟨rfl,rfl⟩) (DF he) hn
theorem JC {t:TypeId}{d:DataW H}{ps:List MemPlace}(ht:P.underlying t=some (.int .i64))(hval:Value.okWide P w r b0 t v)(hd:DataW.Trod enc P w base spare held t v d ps) :
  ∃z:Int,(-9223372036854775808≤z∧z≤9223372036854775807)∧bJ w (fun _=>False) v (int z):=by
 obtain⟨n,hn⟩:=hd;rw[PF ht hval] at hn;exact DF ht _ _ _ hn
theorem rJ (hl:laidOutB P=true){W W':World}{sp':Nat→Bool}:∀{ts:List TypeId}{vs:List Value}{ds:List (DataW H)}{ps:List MemPlace},(∀t∈ts,P.readableRec t=true∧t<P.types.size) →
   DataW.TrodAll enc P W base (fun _=>true) true ts vs ds ps→(∀p∈ps,W.sameAt W' p)→(∀p∈ps,sp' p.block=true)→DataW.TrodAll enc P W' base sp' true ts vs ds ps
 | [],[],[],_,_,h,_,_=>h
 | t :: ts, v :: vs, d :: ds, _, ht, ⟨p, q, h1, h2, e⟩, hs, hp => ⟨p, q, WideElems.Trod_stays hl (ht t aaq).1 (ht t aaq).2 h1 (fun x hx => hs x (by rw [e]; exact ab0 _ hx)) (fun x hx => hp x (by rw [e]; exact ab0 _ hx)),
     rJ hl (fun t ht'=>ht t (aav _ ht')) h2 (fun x hx=>hs x (by rw[e];exact abY _ hx)) (fun x hx=>hp x (by rw[e];exact abY _ hx)),e⟩
theorem xm {D:Prop}{f:Func}{fid:FuncId}{s:ChangeSpec}{W:World}{args:Array Value}{ds gs:List (DataW H)}{before:List MemPlace}{tb:TypeId}(hl:laidOutB P=true)(hrec:(f.params.toList.all fun t=>P.readableRec t&&decide (t<P.types.size))=true)(hres:f.resultTypes=#[tb])(htb:P.underlying tb=some .bool)
  (hvars:s.vars=[])(hfn:s.fn H (ds++[])={ results:=[.lit (.bool true)],args:=ds,vars:=[] })(hW:DataW.Whole enc P f.params.toList s.vars false W args.toList ds gs before)
  (hcall:Calls P fid args W fun e W'=>∃v,e=.returned v∧bB D W.heap.size W W'∧iJ P W' (fun b=>b<W.heap.size) (fun b=>b<W.heap.size) v (.p (bool true))) :
  Calls P fid args W fun e W'=>∃v,e=.returned v∧s.post enc P f false true false false W args v W':=by
 have hW':=hW;obtain⟨p,q,hA,hV,hps,hfz,hnd⟩:=hW;rw[hvars] at hV;obtain⟨hg,hq⟩:=trodVars_none hV;subst hg hq;refine hcall.mono fun e W' ⟨v,he,hb,hrv⟩=>⟨v,he,?_⟩
 have hv:v=.bool true:=by
  have h:bJ W' _ v (bool true):=hrv;generalize hz:bool true=z at h;cases h<;>simp_all
 subst hv;have hlt:∀x∈p,x.block<W.heap.size:=fun x hx=>hA.lt x hx
 have htrue:∀(b:Nat)(sp:Nat→Bool)(hd:Bool),DataW.TrodAll enc P W' b sp hd f.resultTypes.toList ((Value.bool true).resultList f.resultTypes.size) (s.fn H (ds++[])).results []:=fun b sp hd=>by
  rw[hfn,hres];exact trodAll_cons_mk (shut_bool htb _) trodAll_mk0
 have hargs:∀sp:Nat→Bool,(∀x∈before,sp x.block=true)→DataW.TrodAll enc P W' 0 sp true f.params.toList args.toList (s.fn H (ds++[])).args p:=fun sp hsp=>by
  rw[hfn];refine rJ hl (fun t ht=>?_) hA (fun x hx=>hb.toBelow.same (hlt x hx)) (fun x hx=>hsp x (by rw[hps];exact ab0 _ hx));have:=aaF.1 hrec t ht;simpa using this
 have hold:∀x∈before,(fun b=>decide (b<W.heap.size)) x.block=true:=fun x hx=>by simpa using hW'.lt x hx
 have hvr:∀sp:Nat→Bool,DataW.TrodVars enc P W' sp s.vars (s.fn H (ds++[])).vars []:=fun sp=>by rw[hfn,hvars];rfl
 refine⟨ds,[],before,[],p,[],hW',htrue _ _ _,hargs _ hold,hvr _,World.keptBut_mono (fun x hx=>hx) (hb.toBelow.frame _),fun _=>?_⟩;refine⟨ok_one (t:=tb) hres J (okWide_bool_mk htb _),_,_,([]++p)++[],⟨[]++p,[],trodAll_append (hargs _ (fun _ _=>rfl)) (htrue _ _ _),hvr _,rfl,?_,fun h=>by cases h⟩,?_⟩
 ·intro b off hp;have hp':MemPlace.cell b off∈before:=by rw[hps];simpa using hp
  exact(hb.toBelow.frozen (p:=⟨b,off,none⟩) (hW'.lt _ hp')).trans (hfz b off hp')
 ·intro x hx _;rw[hps];simpa using hx
end
def LQ (w:World)(M:Nat→Prop):List Value→List AV→Prop
 | [],[]=>True
 | v :: vs,d :: ds=>bJ w M v d∧LQ w M vs ds
 | _,_=>False
theorem LQ.get {w:World}{M:Nat→Prop}:∀{vs:List Value}{ds:List AV},LQ w M vs ds→vs.length=ds.length∧∀(j:Nat) d,ds[j]?=some d→bJ w M (vs.getD j undef) d
 | [],[],_=>⟨rfl,fun j d hd=>by simp at hd⟩
 | v :: vs, d :: ds, h => by
   obtain⟨h1,h2⟩:=h;obtain⟨h3,h4⟩:=LQ.get h2;refine⟨by simp[h3],fun j e he=>?_⟩;cases j with
   | zero=>simp only[aaN,aaj] at he;subst he;exact h1
   | succ j=>exact h4 j e (by simpa using he)
theorem ak.use {P:Program}{f:FuncId}{ds:List AV}{r:RV}(h:ak P f ds r){w:World}{vs:List Value}(hr:LQ w (fun _=>False) vs ds) :
  Calls P f vs.toArray w fun e w'=>∃v,e=.returned v∧Below w.heap.size w w'∧iJ P w' (fun b=>b<w.heap.size) (fun b=>b<w.heap.size) v r :=
 h.2 w vs hr.get.1 hr.get.2
section
variable {P:Program} {w0:Fr}{M0:Nat→Prop}{s s':St}
def LR (Q:Exit→St→Prop):Exit→St→Prop
 | .goto _,_=>False
 | e,s=>Q e s
theorem F9 {c:Code}(h:ao P w0 M0 c s (LR Q)):ao P w0 M0 (.scope c) s Q:=by intro a w hs;refine rX (iT (h a w hs) fun e a' w' ⟨s',h1,h2⟩=>?_);cases e<;>first|exact h1.elim|exact⟨s',h1,h2⟩
theorem Ga {l:Nat}(h:Q .normal s):ao P w0 M0 (.label l) s Q:=fun a w hs=>Jg ⟨s,h,hs⟩
section ops
variable {o:Oper} {ρ:Operand→Option SV}{ob:List (Nat×Ob)}{x y z:Operand}{T T' e:TypeId}{k q:IntKind}{a b:Int}{c:fW}
theorem LS (ho:o.op=.binOp .shr T x y T')(hx:aZ ρ x=some (.int k a))(hy:aZ ρ y=some (.int q b))(hb:0≤b):Pure P w0 M0 o ρ ob (.v .pl (.sc (.int k (a.fdiv (2 ^ (min b.toNat k.bits)))))) :=
 dG ho hx hy rfl rfl (fun w=>by simp only[binOp_shr,Op.shift,if_neg (show ¬b<0 by omega),Sem.run_pure])
theorem du {c:fW}{a a':Int}(h:Pure P w0 M0 o ρ ob (.v c (.sc (.int k a))))(e:a=a'):Pure P w0 M0 o ρ ob (.v c (.sc (.int k a'))):=by subst e;exact h
abbrev HT (n:Int):AV:=.sc (.int .u8 n)
theorem xn:∀ l:List Int,sa (l.map HT)=some l
 | []=>rfl
 | n :: r => by
   show(match sa (r.map HT) with|some l=>some (n :: l)|none=>none)=_;rw[xn r]
theorem Gb {l:List Int}(ho:o.op=.convert T T' x)(hT:P.underlying T=some (.slice e))(he:P.underlying e=some (.int .u8))(hT':P.underlying T'=some .string)(hx:viewAt ρ ob x=some (c,.sl (l.map HT))) :
 Pure P w0 M0 o ρ ob (.v .pl (ah (l.map fun n=>UInt8.ofNat n.toNat))):=uj ho hT he hT' hx (xn l)
theorem qO {va:Option Addr}{m n' m':Nat}(ho:o.op=.binOp .eql T x y T')(hT:P.underlying T=some (.slice e))(hx:aZ ρ x=some (.slice va n m))(hy:aZ ρ y=some (.slice none n' m')):Pure P w0 M0 o ρ ob (.v .pl (bool va.isNone)) :=
 aD fun E w ev hw h=>by
  have hxv:ev x=.slice va n m:=bK h hx;have hyv:ev y=.slice none n' m':=bK h hy;exact⟨.bool va.isNone,w,by simp[execOp,ho,hxv,hyv,eqGuard,Lib.run_eql_slice_nil w _ _ _ _ _ _ _ hT],.refl _ _,.sc _ J⟩
theorem s6 {xs:List AV}{n' m':Nat}(ho:o.op=.binOp .eql T x y T')(hT:P.underlying T=some (.slice e))(hx:viewAt ρ ob x=some (c,.sl xs))(hy:aZ ρ y=some (.slice none n' m'))(h0:0<xs.length):Pure P w0 M0 o ρ ob (.v .pl (bool false)) :=
 aD fun E w ev hw h=>by
   have hr:=cz hw h hx;have hyv:ev y=.slice none n' m':=bK h hy;generalize hq:ev x=q at hr;cases hr with
   | sl a n cap _ k cv hn hc hk hb hl hr =>
     obtain⟨b,of,rfl,_⟩:=hb acK;exact⟨.bool false,w,by simp[execOp,ho,hq,hyv,eqGuard,Lib.run_eql_slice_nil w _ _ _ _ _ _ _ hT],.refl _ _,.sc _ J⟩
theorem HU {s:St}{y:Operand}{va:Option Addr}{m k:Nat}(hy:aZ s.ev y=some (.slice va 0 m)):Src P w0 M0 s y k []:=by intro E a w hs;have hv:a.eval y=.slice va 0 m:=bK (ρ:=s.ev) (ob:=s.o) (fun x e hx=>hs.ev hx) hy;exact⟨va,0,m,[],hv,rfl,by simp,fun h=>absurd h acK,fun x hx=>(by cases hx),fun j d hd=>(by simp[flat] at hd)⟩
end ops
end
end Go.Am
