/-
  Part of the proof.
-/
import Derived.Test.YtlapahnodhmcpaaGreatJ0
import Derived.Test.YtlapahnodhmcpaaGreatJ5
import Derived.MapKept
import Derived.ChangeMaps4
import Derived.Carry
import Derived.Laws.BytesArg
import Derived.Shelf.SlSortCmp.Kit1
import Derived.ProofKit
import Derived.OpenShut
import Derived.Handed
import Derived.Deep.Slices
import Derived.WideKeyArgs
import Derived.Scope
import Derived.Control
import Derived.Lib.SliceRun
set_option linter.unusedVariables false
set_option linter.unusedSectionVars false
set_option linter.unusedSimpArgs false
set_option maxRecDepth 100000
set_option maxHeartbeats 40000000
namespace Go.Am
open Go.RowKit Go.MapKept Go.ChangeMaps
open Classical in
noncomputable def dI:List Value→Value→Option Nat
 | [],_=>none
 | x :: r,k=>if x=k then some 0 else(dI r k).map (·+1)
theorem zu {k:Value}:∀{l:List Value},dI l k=none↔k ∉ l
 | []=>by simp[dI]
 | x :: r => by
   unfold dI
   split
   · rename_i h;subst h;simp
   · rename_i h
     rw[Option.map_eq_none_iff,zu (l:=r),aah,not_or]
     exact⟨fun h'=>⟨fun e=>h e.symm,h'⟩,fun h'=>h'.2⟩
theorem eN {k:Value}:∀{l:List Value}{i:Nat},dI l k=some i→l[i]?=some k
 | [],i,h=>by simp[dI] at h
 | x :: r, i, h => by
   unfold dI at h
   split at h
   · rename_i he;subst he;simp only[Option.some.injEq] at h;subst h;rfl
   · rw [Z4] at h
     obtain⟨j,hj,rfl⟩:=h
     simpa using eN hj
noncomputable def fL (ks:List Value)(k:Value):List Value:=match dI ks k with
 | some _=>ks
 | none=>ks++[k]
noncomputable def IK (ks:List Value)(vs:List AV)(k:Value)(a:AV):List AV:=match dI ks k with
 | some i=>vs.set i a
 | none=>vs++[a]
noncomputable def sF (z:AV)(ks:List Value)(vs:List AV)(k:Value):AV:=match dI ks k with
 | some i=>vs.getD i z
 | none=>z
noncomputable def IL (ks:List Value)(k:Value):Bool:=(dI ks k).isSome
theorem jO {d:TypeDesc}{k:Value}(hk:IsKey d k):∀(l:List MapEntry)(i:Nat),(∀x∈l,IsKey d x.key) →
   Instr.findNow d k l i=some ((dI (l.map (·.key)) k).map fun j=>(i+j,(l.map (·.val)).getD j undef))
 | [],_,_=>rfl
 | e :: es, i, h => by
   obtain⟨r,hr,hiff⟩:=sameNow_of_keys hk (h e (.head _))
   simp only[aaL,dI]
   cases r with
   | true=>rw[if_pos (hiff.1 rfl).symm];simp[Instr.findNow,hr]
   | false =>
     have hne:e.key≠k:=fun q=>by have:=hiff.2 q.symm;cases this
     rw[if_neg hne]
     have ih:=jO hk es (i+1) (fun x hx=>h x (.tail _ hx))
     simp only[Instr.findNow,hr,ih,Option.map_map]
     congr 1
     cases dI (es.map (·.key)) k with
     | none=>rfl
     | some j=>simp;omega
section
variable {P:Program} {w0:Fr}{M0:Nat→Prop}
variable {o:Oper} {ρ:Operand→Option SV}{ob:List (Nat×Ob)}{d:SV}{x y z:Operand}{T T' e:TypeId}{k b:Nat}{c:fQ}{id off:Nat}{s:St}{t:Nat}{ks:List Value}{vs:List AV}{kt et:TypeId}{kd:TypeDesc}
theorem a8.R4 {E:Env}{a:Act}{w:World}(h:a8 P w0 M0 E s a w)(hnd:Nodup s.s=true)(aa:∀b,M0 b→b<w0.w.heap.size)(hpt:t<1000000) :
  a8 P w0 M0 { E with blk:=fun i=>if i=t then w.heap.size else E.blk i } (s.cD true t (.mp [] [])) a (w.alloc (.map #[] 0)):=by
 refine h.cD true (fun h=>by cases h) hnd aa (fun i hi=>⟨rfl,by simp[hi]⟩) (.inl (A2 hpt)) none (World.grownBy_alloc w _ none) (fun _=>Z1 _) (fun g hg=>by cases hg) (fun b hb=>.inr ?_) (fun rep sv=>?_)
 ·simp only[bE,if_true] at hb;omega
 ·have hblk:mq w0 M0 w.heap.size:=h.wok.gT aa (Z1 _)
  exact⟨#[],0,by simp only[if_true];exact heap_alloc_new w (.map #[] 0),by simp only[if_true];exact hblk,rfl,rfl,fun j d hd=>by simp at hd⟩
theorem step_map {r:Option Operand}(ho:o.op=.makeMap T r)(hd:o.dst=some t)(hn:Nat.blt t s.n=true)(hpt:Nat.blt t 1000000=true)(hnd:Nodup s.s=true)(hT:P.underlying T=some (.map kt et))
   (hr:∀q,r=some q→∃kk n,bj s.ev q=some (.int kk n))(aa:∀b,M0 b→b<w0.w.heap.size):Step P w0 M0 o s ((s.cD true t (.mp [] [])).put t (.omap t)):=by
 rintro a w Q ⟨E,hs⟩
 unfold Oper.wp
 have hexec:(execOp a.eval o).run P w=.ok (.value (.map (some w.heap.size))) (w.alloc (.map #[] 0)):=by
   cases r with
   | none=>simp[execOp,ho,run_makeMap]
   | some q =>
     obtain⟨kk,n,hq⟩:=hr q rfl
     have hq':a.eval q=.int kk n:=ck (ρ:=s.ev) (x:=q) (ob:=s.o) (ev:=a.eval) (fun x e hx=>hs.ev hx) hq
     simp[execOp,ho,hq',Instr.makeMap,run_underlying hT,asInt,asIntOf,Result.andThen,newObj,Sem.run]
 rw[hexec]
 simp only[Oper.upon,hd]
 refine⟨{ E with blk:=fun i=>if i=t then w.heap.size else E.blk i },a8.put (hs.R4 hnd aa (abR (ZZ hpt))) (by simpa[St.cD] using hn) ?_⟩
 intro ks' vs' _
 simp
theorem K0 {key:Value}{a0:AV}(ho:o.op=.mapUpdate T x y z)(hd:o.dst=none)(hnd:Nodup s.s=true)(hT:P.underlying T=some (.map kt et))(hkd:P.underlying kt=some kd)(hx:s.ev x=some (.omap id))(hl:s.o.lookup id=some (.mp ks vs))
   (hy:bj s.ev y=some key)(hz:viewAt s.ev s.o z=some (.pl,a0))(hk:IsKey kd key)(hks:∀u∈ks,IsKey kd u)(aa:∀b,M0 b→b<w0.w.heap.size) :
   Step P w0 M0 o s (s.cD false id (.mp (fL ks key) (IK ks vs key a0))):=by
 rintro a w Q ⟨E,hs⟩
 have hxv:=hs.ev hx ks vs hl
 have hyv:a.eval y=key:=ck (ρ:=s.ev) (x:=y) (ob:=s.o) (ev:=a.eval) (fun x e hx=>hs.ev hx) hy
 have hzv:=cz hs.wok (fun x e hx=>hs.ev hx) hz
 have hob:=hs.wok.objs id _ hl
 obtain⟨es,clock,h1,h2,h3,h4,h5⟩:=hob
 have hes:∀u∈es.toList,IsKey kd u.key:=fun u hu=>hks _ (by rw[←h3];exact abT hu)
 have hf:=jO hk es.toList 0 hes
 rw[h3] at hf
 have key3:∃(es':Array MapEntry)(clock':Nat),(Instr.mapUpdate T (.map (some (E.blk id))) key (a.eval z)).run P w=.ok () (setBlock w (E.blk id) (.map es' clock'))∧es'.toList.map (·.key)=fL ks key ∧
     (fL ks key).length=(IK ks vs key a0).length∧(∀(j:Nat) d,(IK ks vs key a0)[j]?=some d→bJ w (cC M0 (owned E s.o) .pl) ((es'.toList.map (·.val)).getD j undef) d):=by
   unfold fL IK
   cases hp:dI ks key with
   | none =>
     rw[hp] at hf;simp[Option.map] at hf
     refine⟨es.push ⟨key,a.eval z,clock⟩,clock+1,?_,by simp[h3],by simp[h4],fun j d hd=>?_⟩
     · simp[Instr.mapUpdate,run_underlying hT,MapKept.run_getObj_map h1,run_checkKey hkd hk,run_findKey hkd hf,MapKept.run_setObj_map _ h1,Result.andThen,setBlock]
     · have hvl : (es.toList.map (·.val)).length = vs.length := by rw [← h4, ← h3]; simp
       simp only[Array.toList_push,Z8,ab5]
       rw[ZY]
       rcases aaq j vs.length with hj|hj
       · rw [aan ace] at hd
         rw[aan ace,←ZY]
         exact h5 j d hd
       · rw [aal hj] at hd
         rw[aal ace,hvl]
         cases hj0:j-vs.length with
         | zero=>rw[hj0] at hd;simp only[aat,Option.some.injEq] at hd;subst hd;exact hzv
         | succ q=>rw[hj0] at hd;simp at hd
   | some i =>
     rw[hp] at hf;simp[Option.map] at hf
     have hki:=eN hp
     rw[←h3,Z6,Z4] at hki
     obtain⟨e0,he0,hek⟩:=hki
     rw[aaw] at he0
     have hkeys:(es.modify i fun e=>{ e with key:=key,val:=a.eval z }).toList.map (·.key)=ks:=by
       rw[modify_keys i _ (fun e he=>by rw[he0] at he;simp only[Option.some.injEq] at he;subst he;exact hek.symm),h3]
     refine⟨es.modify i fun e=>{ e with key:=key,val:=a.eval z },clock,?_,hkeys,by simp[h4],fun j d hd=>?_⟩
     · have hst := run_keyThatStays (P := P) (w := w) hk
       simp[Instr.mapUpdate,run_underlying hT,MapKept.run_getObj_map h1,run_checkKey hkd hk,run_findKey hkd hf,MapKept.run_setObj_map _ h1,Result.andThen,setBlock,he0,hek,hst]
     · have hvl : (es.toList.map (·.val)).length = vs.length := by rw [← h4, ← h3]; simp
       rw[List.getElem?_set] at hd
       rw[ZY,Z6,aaw,Array.getElem?_modify]
       split at hd
       · rename_i hij
         subst hij
         rw[if_pos rfl,he0]
         split at hd
         · simp only[Option.some.injEq] at hd;subst hd;exact hzv
         · cases hd
       · rename_i hij
         rw[if_neg hij,←aaw,←Z6,←ZY]
         exact h5 j d hd
 obtain⟨es',clock',hrun,hkeys,hlen,hreps⟩:=key3
 unfold Oper.wp
 have hexec:(execOp a.eval o).run P w=.ok .skip (setBlock w (E.blk id) (.map es' clock')):=by
   simp[execOp,ho,hxv,hyv,hrun,Result.andThen]
 rw[hexec]
 simp only[Oper.upon,hd,Act.put]
 have hgrow:w.grownBy (setBlock w (E.blk id) (.map es' clock')) (some (E.blk id)):=⟨rfl,rfl,rfl,by simp[setBlock],fun i _ hi=>heap_setBlock_other h1 _ (fun e=>hi (by rw[e]))⟩
 refine⟨E,hs.cD false (fun _=>⟨rfl,.inr (.inr ⟨ks,vs,_,_,hl,rfl⟩)⟩) hnd aa (fun i hi=>⟨rfl,rfl⟩) (.inr J) (some (E.blk id)) hgrow (fun _=>Z1 _) (fun g hg=>⟨_,hl,by simpa[bE] using hg⟩) (fun b hb=>.inl ⟨_,hl,hb⟩) (fun rep sv=>?_)⟩
 exact⟨es',clock',heap_setBlock_same h1 _,h2,hkeys,hlen,fun j d hj=>rep .pl _ _ (hreps j d hj) (by simp)⟩
theorem zw {u:Value}{w:World}{M:Nat→Prop}{v key:Value}(hT:P.underlying T=some (.map kt et))(hkd:P.underlying kt=some kd)(hz:(P.info? et).bind (·.zero)=some u)(hu:u.oneCell'=true)
   (hr:bJ w M v (.mp ks vs))(hk:IsKey kd key)(hks:∀q∈ks,IsKey kd q):∃r,bJ w M r (sF (.sc u) ks vs key)∧∀ok,(Instr.lookup T v key ok).run P w=.ok (if ok=true then .tuple #[r,.bool (IL ks key)] else r) w:=by
 cases hr with
 | mp b es clock ks vs hM hb h1 h3 h4 h5 =>
   have hes:∀u∈es.toList,IsKey kd u.key:=fun u hu=>hks _ (by rw[←h3];exact abT hu)
   have hf:=jO hk es.toList 0 hes
   rw[h3] at hf
   cases hi:P.info? et with
   | none=>rw[hi] at hz;cases hz
   | some it =>
     rw[hi] at hz
     simp only[abu] at hz
     unfold sF IL
     cases hp:dI ks key with
     | none =>
       rw[hp] at hf
       refine⟨u,.sc u hu,fun ok=>?_⟩
       cases ok<;>simp[Instr.lookup,run_underlying hT,MapKept.run_getObj_map h1,run_checkKey hkd hk,run_findKey hkd hf,Result.andThen,zeroValue,typeInfo,hi,hz]
     | some j =>
       rw[hp] at hf
       have hkj:=eN hp
       have hj:j<vs.length:=by rw[←h4];exact(aaf.1 hkj).1
       refine⟨(es.toList.map (·.val)).getD j undef,?_,fun ok=>?_⟩
       · have := h5 j vs[j] (Z3 hj)
         show bJ w M _ (vs.getD j (AV.sc u))
         rw[ZY (l:=vs),Z3 hj]
         exact this
       · cases ok<;>simp[Instr.lookup,run_underlying hT,MapKept.run_getObj_map h1,run_checkKey hkd hk,run_findKey hkd hf,Result.andThen]
theorem wH {u key:Value}{a0:AV}(ho:o.op=.lookup T x y false)(hT:P.underlying T=some (.map kt et))(hkd:P.underlying kt=some kd)(hz:(P.info? et).bind (·.zero)=some u)(hu:u.oneCell'=true)
  (hx:viewAt ρ ob x=some (c,.mp ks vs))(hy:bj ρ y=some key)(hk:IsKey kd key)(hks:∀q∈ks,IsKey kd q)(ha:sF (.sc u) ks vs key=a0):Pure P w0 M0 o ρ ob (.v c a0) :=
 aE fun E w ev hw h=>by
  have hyv:ev y=key:=ck h hy
  obtain⟨r,h1,h2⟩:=zw hT hkd hz hu (cz hw h hx) hk hks
  refine⟨r,w,by simp[execOp,ho,hyv,h2 false],.refl _ _,?_⟩
  rw[←ha];exact h1
theorem CS {u key:Value}{a0:AV}{b0:Bool}(ho:o.op=.lookup T x y true)(hT:P.underlying T=some (.map kt et))(hkd:P.underlying kt=some kd)(hz:(P.info? et).bind (·.zero)=some u)(hu:u.oneCell'=true)
  (hx:viewAt ρ ob x=some (c,.mp ks vs))(hy:bj ρ y=some key)(hk:IsKey kd key)(hks:∀q∈ks,IsKey kd q)(ha:sF (.sc u) ks vs key=a0)(hb:IL ks key=b0):Pure P w0 M0 o ρ ob (.v c (.tup [a0,.sc (.bool b0)])) :=
 aE fun E w ev hw h=>by
  have hyv:ev y=key:=ck h hy
  obtain⟨r,h1,h2⟩:=zw hT hkd hz hu (cz hw h hx) hk hks
  refine⟨.tuple #[r,.bool (IL ks key)],w,by simp[execOp,ho,hyv,h2 true],.refl _ _,?_⟩
  refine .tup [r,.bool (IL ks key)] _ J fun j d hj=>?_
  match j with
  | 0=>simp only[aat,Option.some.injEq] at hj;subst hj;rw[←ha];exact h1
  | 1=>simp only[aa8,aat,Option.some.injEq] at hj;subst hj;rw[←hb];exact .sc _ rfl
  | j+2=>simp at hj
theorem IM (ho:o.op=.call { callee:=.builtin .len,args:=#[x],argTypes:=#[T] })(hT:P.underlying T=some (.map kt et))(hx:viewAt ρ ob x=some (c,.mp ks vs)):Pure P w0 M0 o ρ ob (.v .pl (int ks.length)) :=
 aE fun E w ev hw h=>by
   have hr:=cz hw h hx
   generalize hq:ev x=q at hr
   cases hr with
   | mp b es clock ks vs hM hb h1 h3 h4 h5 =>
     refine⟨.int .i64 es.size,w,?_,.refl _ _,?_⟩
     · simp[execOp,ho,hq,resolve,invoke,builtin,Builtin.len_,goInt,run_underlying hT,MapKept.run_getObj_map h1,Result.andThen]
     · have : ks.length = es.size := by rw [← h3]; simp
       rw[this];exact .sc _ rfl
def CT (o o':List (Nat×Ob)):SV→Option AV
 | .v .pl d=>some d
 | .v _ (.sc u)=>some (.sc u)
 | .own id => match o.lookup id, o'.lookup id with
   | some (.arr _ xs),none=>some (.sl xs)
   | _,_=>none
 | .omap id => match o.lookup id, o'.lookup id with
   | some (.mp ks vs),none=>some (.mp ks vs)
   | _,_=>none
 | _=>none
def K1 (o o':List (Nat×Ob)):List SV→Option (List AV)
 | []=>some []
 | d :: r => match CT o o' d, K1 o o' r with
   | some a,some az=>some (a :: az)
   | _,_=>none
def R5 (o o':List (Nat×Ob)):SV→Option AV
 | .pbox id off => match o.lookup id, o'.lookup id with
   | some (.box _ cs), none => match K1 o o' cs with
     | some az=>some (.pc az off)
     | none=>none
   | _,_=>none
 | d=>CT o o' d
theorem CU {o o':List (Nat×Ob)}:∀{l:List SV}{az:List AV},K1 o o' l=some az→l.length=az.length∧∀(j:Nat) a,az[j]?=some a→∃d,l[j]?=some d∧CT o o' d=some a
 | [],az,h=>by simp only[K1,Option.some.injEq] at h;subst h;exact⟨rfl,fun j a h=>by simp at h⟩
 | d :: r, az, h => by
   unfold K1 at h
   split at h
   · rename_i a1 as1 h1 h2
     simp only[Option.some.injEq] at h
     subst h
     obtain⟨g1,g2⟩:=CU h2
     refine⟨by simp[g1],fun j a hj=>?_⟩
     cases j with
     | zero=>simp only[aat,Option.some.injEq] at hj;subst hj;exact⟨d,rfl,h1⟩
     | succ j=>exact g2 j a (by simpa using hj)
   · cases h
section
variable {w:World} {E:Env}{o o':List (Nat×Ob)}
theorem rE (hw:gh P w0 M0 E o w)(ho:∀id ob,o'.lookup id=some ob→o.lookup id=some ob)(aa:∀b,M0 b→b<w0.w.heap.size){id b:Nat}{ob0:Ob}(h:o.lookup id=some ob0)(hn:o'.lookup id=none)(hb:bE E id b ob0) :
  ¬cC M0 (owned E o') .pl b:=by
 rintro(h1|⟨i,obx,h1,h2⟩)
 ·exact((hw.objs id _ h).dA hb).1.2 h1
 ·have:=hw.disj i obx id ob0 b (ho i obx h1) h h2 hb
  subst this
  rw[hn] at h1;cases h1
theorem G9 (hw:gh P w0 M0 E o w)(ho:∀id ob,o'.lookup id=some ob→o.lookup id=some ob)(aa:∀b,M0 b→b<w0.w.heap.size){v:Value}{d:SV}{a:AV}(h:bo P M0 w E o v d)(hd:CT o o' d=some a) :
  bJ w (cC M0 (owned E o') .pl) v a:=by
 have hown:∀b,owned E o' b→owned E o b:=fun b ⟨id,ob,h1,h2⟩=>⟨id,ob,ho id ob h1,h2⟩
 unfold CT at hd
 split at hd
 ·simp only[Option.some.injEq] at hd
  subst hd
  exact bJ.ca h (dK hown .pl)
 ·simp only[Option.some.injEq] at hd
  subst hd
  cases h
  exact .sc _ ‹_›
 ·rename_i id
  split at hd
  ·rename_i e xs hl hn
   simp only[Option.some.injEq] at hd
   subst hd
   rw[h e xs hl]
   exact(hw.objs id _ hl).rep (dK hown .pl) (fun g hg=>rE hw ho aa hl hn hg)
  ·cases hd
 ·rename_i id
  split at hd
  ·rename_i ks vs hl hn
   simp only[Option.some.injEq] at hd
   subst hd
   rw[h ks vs hl]
   have hlt:=((hw.objs id _ hl).dA rfl).2
   obtain⟨es,clock,h1,h2,h3,h4,h5⟩:=hw.objs id _ hl
   exact .mp _ es clock ks vs (rE hw ho aa hl hn J) hlt h1 h3 h4 fun j d hd=>(h5 j d hd).ca (dK hown .pl)
  ·cases hd
 ·cases hd
theorem IN {d:SV}{a:AV}(hd:CT o o' d=some a)(hl:SV.leaf d=true):AV.leaf a=true:=by
 unfold CT at hd
 split at hd
 ·simp only[Option.some.injEq] at hd;subst hd;exact hl
 ·simp only[Option.some.injEq] at hd;subst hd;rfl
 ·split at hd
  ·simp only[Option.some.injEq] at hd;subst hd;rfl
  ·cases hd
 ·split at hd
  ·simp only[Option.some.injEq] at hd;subst hd;rfl
  ·cases hd
 ·cases hd
theorem K2 (hw:gh P w0 M0 E o w)(ho:∀id ob,o'.lookup id=some ob→o.lookup id=some ob)(aa:∀b,M0 b→b<w0.w.heap.size){v:Value}{d:SV}{a:AV}(h:bo P M0 w E o v d)(hd:R5 o o' d=some a) :
   bJ w (cC M0 (owned E o') .pl) v a:=by
 unfold R5 at hd
 split at hd
 · rename_i id off
   split at hd
   · rename_i e cs hl hn
     split at hd
     · rename_i az has
       simp only[Option.some.injEq] at hd
       subst hd
       rw[h e cs hl]
       have hlt:=((hw.objs id _ hl).dA rfl).2
       obtain⟨vals,h1,h2,h3,h4⟩:=hw.objs id _ hl
       obtain⟨g1,g2⟩:=CU has
       have:=bJ.pc (w:=w) (M:=cC M0 (owned E o') .pl) (E.blk id) 0 off az (fun j=>vals.getD j undef) (rE hw ho aa hl hn rfl) hlt (fun j hj=>?_) (fun j a hj=>?_) (fun j a hj=>?_)
       · rw[aaV] at this;exact this
       · have hj' : j < vals.length := ace
         rw[cell_of_row w _ _ _ e (0,0) h1]
         simp[ZY,Z3 hj']
       · obtain ⟨d, hd1, hd2⟩ := g2 j a hj
         exact IN hd2 (h4 j d hd1).1
       · obtain ⟨d, hd1, hd2⟩ := g2 j a hj
         exact G9 hw ho aa (h4 j d hd1).2.2 hd2
     · cases hd
   · cases hd
 · exact G9 hw ho aa h hd
end
def Fg (s:St)(o':List (Nat×Ob)):List (Nat×SV)→Prop
 | []=>True
 | (t,d) :: r=>(s.s.lookup t=some d∨∃q a,s.s.lookup t=some q∧R5 s.o o' q=some a∧d=.v .pl a)∧Fg s o' r
theorem Fg.out {s:St}{o':List (Nat×Ob)}:∀{l:List (Nat×SV)},Fg s o' l→∀t d,l.lookup t=some d→s.s.lookup t=some d∨∃q a,s.s.lookup t=some q∧R5 s.o o' q=some a∧d=.v .pl a
 | [],_,t,d,h=>by simp at h
 | (u, e) :: r, h, t, d, hl => by
   rw[ak] at hl
   split at hl
   · rename_i he
     subst he
     simp only[Option.some.injEq] at hl
     subst hl
     exact h.1
   · exact Fg.out h.2 t d hl
theorem Ha {s:St}{l:List (Nat×SV)}{o':List (Nat×Ob)}(aa:∀b,M0 b→b<w0.w.heap.size)(hl:Fg s o' l)(ho:vI s o'):fJ P w0 M0 s ⟨s.n,l,o'⟩:=by
 rintro a w ⟨E,hs⟩
 have ho':=ho.out
 obtain⟨E1,h1⟩:=sx (P:=P) (w0:=w0) (M0:=M0) (s:=s) (l:=[]) (o':=o') trivial ho a w ⟨E,hs⟩
 have h2:a8 P w0 M0 E ⟨s.n,[],o'⟩ a w:=by
   have hown:∀b,owned E o' b→owned E s.o b:=fun b ⟨id,ob,h1,h2⟩=>⟨id,ob,ho' id ob h1,h2⟩
   refine⟨hs.size,hs.defers,fun t d ht=>by simp at ht,fun id ob hid=>?_,fun id ob id' ob' b h1 h2=>hs.wok.disj id ob id' ob' b (ho' _ _ h1) (ho' _ _ h2),hs.wok.below,hs.wok.pins⟩
   have:=hs.wok.objs id ob (ho' id ob hid)
   cases ob with
   | arr e xs =>
     obtain⟨vals,h1,h2,h3⟩:=this
     exact⟨vals,h1,h2,fun j d hd=>⟨(h3 j d hd).1,(h3 j d hd).2.ca (dK hown .pl)⟩⟩
   | box e cs =>
     obtain⟨vals,h1,h2,h3,h4⟩:=this
     exact⟨vals,h1,h2,h3,fun j sv hj=>⟨(h4 j sv hj).1,(h4 j sv hj).2.1,(h4 j sv hj).2.2.mw ho'⟩⟩
   | mp ks vs =>
     obtain⟨es,clock,h1,h2,h3,h4,h5⟩:=this
     exact⟨es,clock,h1,h2,h3,h4,fun j d hd=>(h5 j d hd).ca (dK hown .pl)⟩
   | nar e cs ln =>
     obtain⟨n,vals,h1,h2,h3,h4,h5⟩:=this
     exact⟨n,vals,h1,h2,h3,h4.ca hown,h5⟩
   | nmp ks cs ln =>
     obtain⟨es,clock,h1,h2,h3,h4,h5,h6,h7⟩:=this
     exact⟨es,clock,h1,h2,h3,h4,h5,h6.ca hown,h7⟩
 refine⟨E,h2.size,h2.defers,fun t d ht=>?_,h2.wok⟩
 rcases hl.out t d ht with h|⟨q,av,h3,h4,rfl⟩
 · have := hs.slots t d h
   exact⟨this.1,this.2.mw ho'⟩
 · have := hs.slots t q h3
   exact⟨this.1,K2 hs.wok ho' aa this.2 h4⟩
theorem kj {ops:Array Oper}{Q:St→Prop}{l':List Oper}(n:Nat)(l:List (Nat×SV))(o':List (Nat×Ob))(aa:∀b,M0 b→b<w0.w.heap.size)(hn:s.n=n)(hl:Fg s o' l)(ho:vI s o')(h:ki P w0 M0 ops Q l' ⟨n,l,o'⟩):ki P w0 M0 ops Q l' s:=by
 subst hn
 exact ki.imp (Ha aa hl ho) h
theorem aS {y:Code}{Q:Exit→St→Prop}(n:Nat)(l:List (Nat×SV))(o':List (Nat×Ob))(aa:∀b,M0 b→b<w0.w.heap.size)(hn:s.n=n)(hl:Fg s o' l)(ho:vI s o')(h:ao P w0 M0 y ⟨n,l,o'⟩ Q):ao P w0 M0 y s Q:=by
 subst hn
 exact ao.imp (Ha aa hl ho) h
/- Short forms, so that a claim stays within its bound on bytes. -/
theorem dq:(∀ (p:Prop) [Decidable p],(decide p=true)=p)∧(∀(p:Prop) [Decidable p],(decide p=false)=¬p)∧(∀b:Bool,((!b)=true)=(b=false))∧(∀b:Bool,((!b)=false)=(b=true))∧(∀a b:Bool,((a&&b)=true)=(a=true∧b=true))∧(∀a b:Bool,((a||b)=true)=(a=true∨b=true))∧(∀a b:Bool,((a&&b)=false)=(a=false∨b=false))∧(∀(α β:Type)(f:α→β)(l:List α),(l.map f).length=l.length)∧(∀n:Nat,(n:Int).toNat=n) :=
 ⟨fun p _=>decide_eq_true_eq,fun p _=>propext decide_eq_false_iff_not,fun b=>aaJ b,fun b=>Bool.not_eq_false' b,fun a b=>aae a b,fun a b=>aaO a b,fun a b=>propext Bool.and_eq_false_iff,fun _ _ f l=>Z0 f,abl⟩
theorem ll:(∀ (α β:Type)(f:α→β)(l:List α),(l.map f).length=l.length)∧(∀(α:Type)(a b:List α),(a++b).length=a.length+b.length)∧(∀(α:Type)(a:α)(b:List α),(a :: b).length=b.length+1)∧(∀α:Type,([]:List α).length=0)∧(∀(α:Type)(l:List α)(i:Nat)(a:α),(l.set i a).length=l.length)∧(∀(α:Type)(n:Nat)(a:α),(List.replicate n a).length=n)∧(∀(α:Type)(l:List α)(i:Nat),(l.take i).length=min i l.length)∧(∀(α:Type)(l:List α)(i:Nat),(l.drop i).length=l.length-i)∧(∀n:Nat,(List.range n).length=n) :=
 ⟨fun _ _ f l=>Z0 f,fun _ _ _=>aab,fun _ _ _=>Z2,fun _=>rfl,fun _ _ _ _=>abC,fun _ _ _=>List.length_replicate,fun _ _ _=>aaa,fun _ _ _=>aad,fun _=>aai⟩
end
def rF:List AV→Option (List Int)
 | []=>some []
 | .sc (.int .u8 n) :: r => match rF r with
   | some l=>some (n :: l)
   | none=>none
 | _=>none
theorem uX:∀ {xs:List AV}{l:List Int},rF xs=some l→xs=l.map fun n=>.sc (.int .u8 n)
 | [],l,h=>by simp only[rF,Option.some.injEq] at h;subst h;rfl
 | x :: r, l, h => by
   unfold rF at h
   split at h
   · rename_i heq;cases heq
   · rename_i n r' heq
     cases heq
     split at h
     · rename_i l' hl
       simp only[Option.some.injEq] at h
       subst h
       rw[aaL,←uX hl]
     · cases h
   · cases h
theorem OR {α:Type}(f:α→Value)(l:List α):flat (l.map fun x=>.sc (f x))=l.map fun x=>.sc (f x):=by
 induction l with
 | nil=>rfl
 | cons a r ih=>simp only[aaL,flat,aa7] at ih ⊢;rw[ih];rfl
section
variable {P:Program} {w0:Fr}{M0:Nat→Prop}
variable {o:Oper} {ρ:Operand→Option SV}{ob:List (Nat×Ob)}{x:Operand}{T T' e:TypeId}{c:fQ}{xs:List AV}{l:List Int}
theorem tN (ho:o.op=.convert T T' x) (hT:P.underlying T=some (.slice e)) (he:P.underlying e=some (.int .u8)) (hT':P.underlying T'=some .string) (hx:viewAt ρ ob x=some (c,.sl xs)) (hn:rF xs=some l) :
   Pure P w0 M0 o ρ ob (.v .pl (aj (l.map fun n=>UInt8.ofNat n.toNat))) :=
 aE fun E w ev hw h=>by
   have hr:=cz hw h hx
   have hxs:=uX hn
   subst hxs
   generalize hq:ev x=q at hr
   cases hr with
   | sl a n cap _ k cv hn' hc hk hb hl hr =>
     refine⟨.string (strOfNums l),w,?_,.refl _ _,.sc _ J⟩
     simp only[Z0] at hn'
     rw[OR] at hr
     have key:∀dst,P.underlying dst=some .string→(convert T dst (.slice a n cap)).run P w=.ok (.string (strOfNums l)) w:=by
       rcases abb n with h0|h0
       · intro dst hd
         have hl0:l=[]:=aak ace
         subst h0 hl0
         cases a with
         | none=>exact run_convert_bytes_nil (P:=P) w T e hT he 0 cap dst hd
         | some ad=>rw[run_convert_bytes_string w T dst e _ 0 cap hT he hd,run_bytesToString w ad 0 cap [] (by simpa using run_loadCells_list (P:=P) w ad [] (by simp))];rfl
       · obtain ⟨b, off, rfl, _, _, hcell⟩ := hb h0
         have hk1:k=1:=by
           cases l with
           | nil=>simp at hn';omega
           | cons z r=>exact(hk _ (by rw[aaL];exact Z7)).symm
         subst hk1
         refine run_convert_bytes_arg (P:=P) w T e hT he b off n cap l hn' (fun i hi=>?_)
         rw[hcell i ace]
         have:=hr i (.sc (.int .u8 (l[i]'ace))) (by rw[Z6,Z3 ace];rfl)
         generalize cv i=u at this
         cases this
         simp[ZY,Z3 (show i<l.length by omega)]
     simp[execOp,ho,hq,key T' hT']
theorem K3 {α:Type}{s:St}{y:Operand}{f:α→AV}{l:List α}{n:Nat}(hy:viewAt s.ev s.o y=some (c,.sl ((l.map f).take n)))(hf:∀x,∃v,f x=.sc v):Src P w0 M0 s y 1 ((l.take n).map f):=by
 rw[←List.map_take] at hy
 exact sE hy hf
end
open Go.Sort Go.Proofs
section
variable {α:Type} [Inhabited α]{enc:α→Value}
theorem fx (w:World)(blk off m:Nat)(dk:Array α)(os:Array Obj):(sortWorld enc w blk off m dk os).heap.size=w.heap.size+os.size:=by
 simp[sortWorld,grow,putRow,mapBlock,Sort.ahead]
theorem eO (w:World)(blk off m:Nat)(dk:Array α)(os:Array Obj){k:Nat}(hk:k≠blk)(hs:k<w.heap.size):(sortWorld enc w blk off m dk os).heap[k]?=w.heap[k]?:=by
 simp only[sortWorld,grow,putRow,mapBlock,Sort.ahead]
 rw[abt (by simpa using hs),Array.getElem?_modify,if_neg (fun h=>hk h.symm)]
theorem jP (w:World)(blk off m:Nat)(dk:Array α)(os:Array Obj){c:Array Value}{e:TypeId}{fr:Nat×Nat}(h:w.heap[blk]?=some (.cells c e fr)):(sortWorld enc w blk off m dk os).heap[blk]?=some (.cells (putCells enc off dk c) e fr):=by
 have hs:=(aaB.1 h).1
 simp only[sortWorld,grow,putRow,mapBlock,Sort.ahead]
 rw[abt (by simpa using hs),Array.getElem?_modify,if_pos rfl,h]
 rfl
theorem qX {w w':World}(h:Below w.heap.size w w'):∃q os,w'=grow (w.drewN q) os:=by
 refine⟨w'.drawn-w.drawn,w'.heap.extract w.heap.size w'.heap.size,?_⟩
 have hheap:w'.heap=w.heap++w'.heap.extract w.heap.size w'.heap.size:=by
  apply Array.ext_getElem?
  intro k
  rcases aaq k w.heap.size with hk|hk
  ·rw[abt hk,h.block k hk]
  ·rw[Array.getElem?_append_right hk,Array.getElem?_extract]
   have:=h.size
   split
   ·congr 1;omega
   ·rw[abW];omega
 have hd:=h.drawn trivial
 obtain⟨h1,h2,h3,_,_⟩:=h.toBelow
 cases w'
 simp only[grow,World.drewN] at *
 congr
 omega
end
section
variable {P:Program} {w0:Fr}{M0:Nat→Prop}
variable {o:Oper} {s:St}{x y:Operand}{T T' e:TypeId}{c:fQ}{id t:Nat}
theorem A6 {α:Type}(f:α→Value):∀l:List α,flat (l.map fun z=>AV.sc (f z))=l.map fun z=>.sc (f z)
 | []=>rfl
 | a :: r => by
   have ih:=A6 f r
   simp only[flat,aaL,aa7,AV.cells,abq,abP] at ih ⊢
   rw[ih]
end
section
variable {P:Program} {w0:Fr}{M0:Nat→Prop}{s:St}
theorem Fh (b j K:Nat)(e eb:TypeId){cs:List SV}(aa:∀b,M0 b→b<w0.w.heap.size)(hnd:Nodup s.s=true)(hb:(s.cD true K (.arr e [])).o.lookup b=some (.box eb cs))(hj:cs[j]?=some (.v .pl (.sc (.slice none 0 0))))
  (hnd':Nodup (s.cD true K (.arr e [])).s=true):fJ P w0 M0 s ((s.cD true K (.arr e [])).cD false b (.box eb ((c3 b cs).set j (.own K)))):=by
 rintro a w ⟨E,hs⟩
 have h1:=hs.nZ (t:=K) (e:=e) (xs:=[]) (v:=.slice none 0 0) hnd aa (w':=w) ⟨rfl,rfl,rfl,Z1 _,fun _ _ _=>rfl⟩ (fun _=>Z1 _) (vals:=[]) (World.ownsRow_nil w _ _ _) (fun b hb=>by cases hb) (fun x hx=>by cases hx) (fun j d hd=>by simp[flat] at hd)
 generalize Zk:({ E with cur:=fun i=>if i=K then .slice none 0 0 else E.cur i }:Env)=E1 at h1
 have hc:E1.cur K=.slice none 0 0:=by rw[←Zk];simp
 refine⟨E1,h1.cD false (fun _=>⟨rfl,.inr (.inl ⟨eb,cs,_,hb,rfl⟩)⟩) hnd' aa (fun i hi=>⟨rfl,rfl⟩) (.inr J) none ⟨rfl,rfl,rfl,Z1 _,fun _ _ _=>rfl⟩ (fun _=>Z1 _) (fun g hg=>by cases hg) (fun b' hb'=>.inl ⟨_,hb,hb'⟩) (fun rep sv=>?_)⟩
 obtain⟨vals,g1,g2,g3,g4⟩:=h1.wok.objs b _ hb
 refine⟨vals,g1,g2,by simpa[c3] using g3,fun i d hd=>?_⟩
 by_cases hi:j=i
 ·subst hi
  have hjl:j<cs.length:=(aaf.1 hj).1
  rw[abj (by simpa[c3] using hjl)] at hd
  simp only[Option.some.injEq] at hd
  subst hd
  have:=g4 j _ hj
  refine⟨rfl,this.2.1,fun e' xs' _=>?_⟩
  rw[hc]
  have h5:bJ w _ (vals.getD j undef) (.sc (.slice none 0 0)):=this.2.2
  generalize vals.getD j undef=u at h5 ⊢
  cases h5;rfl
 ·rw[abo hi] at hd
  simp only[c3,Z6,Z4] at hd
  obtain⟨d0,hd0,rfl⟩:=hd
  have:=g4 i d0 hd0
  split
  ·exact⟨this.1,this.2.1,sv _ _ this.2.2 ‹_›⟩
  ·exact⟨rfl,this.2.1,trivial⟩
theorem bL {y:Code}{Q:Exit→St→Prop}(b j K:Nat)(e eb:TypeId){cs:List SV}(aa:∀b,M0 b→b<w0.w.heap.size)(hnd:Nodup s.s=true)(hb:(s.cD true K (.arr e [])).o.lookup b=some (.box eb cs))(hj:cs[j]?=some (.v .pl (.sc (.slice none 0 0))))
  (hnd':Nodup (s.cD true K (.arr e [])).s=true)(h:ao P w0 M0 y ((s.cD true K (.arr e [])).cD false b (.box eb ((c3 b cs).set j (.own K)))) Q):ao P w0 M0 y s Q :=
 ao.imp (Fh b j K e eb aa hnd hb hj hnd') h
end
section
variable {P:Program} {w0:Fr}{M0:Nat→Prop}{s:St}
variable {o:Oper} {ρ:Operand→Option SV}{ob:List (Nat×Ob)}{x y z:Operand}{T e:TypeId}{k:Nat}{xs:List AV}{id:Nat}
theorem cI {c:fQ}{b b':Bool}(h:Pure P w0 M0 o ρ ob (.v c (bool b)))(e:b=b'):Pure P w0 M0 o ρ ob (.v c (bool b')):=by
 subst e;exact h
theorem lP {cx:Operand}{args:Array Operand}{ats:Array TypeId}{c:fQ}{f:FuncId}{caps ds:List AV}{b b':Bool}
  (ho:o.op=.call { callee:=.value cx,args:=args,argTypes:=ats })(hc:ρ cx=some (.v c (.clo f caps)))(ha:jd ρ ob args.toList=some ds)(h:aq P f (ds++caps) (.p (bool b)))
  (aa:∀b,M0 b→b<w0.w.heap.size)(e:b=b'):Pure P w0 M0 o ρ ob (.v .pl (bool b')):=by
 subst e;exact cm ho hc ha h aa
theorem gW {q':IntKind}{j:Int}(ho:o.op=.slice T x none (some z) none)(hT:P.underlying T=some (.slice e))(hk:bW P e=some k)(hx:ρ x=some (.own id))(hl:ob.lookup id=some (.arr e xs))(hz:bj ρ z=some (.int q' j))(h:0≤j∧j≤xs.length) :
  Pure P w0 M0 o ρ ob (.vsl id 0 j.toNat) :=
 aE fun E w ev hw hh=>by
  have hr:=hh x _ hx e xs hl
  have hz':=ck hh hz
  obtain⟨vals,⟨hown,hownF⟩,h2,h3⟩:=hw.objs id _ hl
  have hu:∃a cap,E.cur id=.slice a xs.length cap∧xs.length≤cap:=by
   rcases hown.2 with⟨hv,hn⟩|⟨g,cap,cur,hv,hgb,hh,hnc,_⟩
   ·exact⟨none,0,by rw[hv,hn],ace⟩
   ·exact⟨_,cap,hv,hnc⟩
  obtain⟨a,cap,hv,hc⟩:=hu
  have hrun:(Instr.slice T (.slice a xs.length cap) none (some (.int q' j)) none).run P w=.ok (sliced a 0 j.toNat cap k) w:=by
   have hj:0≤j∧j≤(cap:Int):=ace
   simp[Instr.slice,run_underlying hT,Instr.sliceBounds,run_sliceBound,hj,dx hk,sliced]
  have hel:P.elem T=e:=by simp[Program.elem,hT]
  refine⟨sliced a 0 j.toNat cap k,w,?_,.refl _ _,fun e' xs' hl'=>?_⟩
  ·simp only[execOp,ho,hr,hv,hz',aaK,Option.map_none,Sem.run_bind,run_sliceAt_slice (P:=P) (w:=w) T _ _ _ _ (by rw[hel];exact hT),hrun,Result.andThen_ok,Sem.run_pure]
  ·rw[hl] at hl'
   simp only[Option.some.injEq,Ob.arr.injEq] at hl'
   obtain⟨rfl,rfl⟩:=hl'
   exact⟨ace,a,_,cap,hv,by rw[cL hk,aaV]⟩
theorem IP (a:Addr):a.add 0=a:=by
 unfold Addr.add
 (repeat' split)<;>simp_all
theorem a8.CV {E:Env}{a:Act}{w:World}{t:Nat}{d:SV}(h:a8 P w0 M0 E s a w)(ht:t<s.n)(hv:bo P M0 w E s.o (a.tmps.getD t undef) d):a8 P w0 M0 E (s.put t d) a w:=by
 refine⟨h.size,h.defers,fun u e he=>?_,h.wok⟩
 simp only[St.put] at he ⊢
 rw[ax] at he
 split at he
 ·rename_i hu
  subst hu
  simp only[Option.some.injEq] at he
  subst he
  exact⟨ht,hv⟩
 ·exact h.slots u e he
theorem IQ {n t:Nat}(ht:s.s.lookup t=some (.vsl id 0 n))(hl:s.o.lookup id=some (.arr e xs))(aa:∀b,M0 b→b<w0.w.heap.size)(hnd:Nodup s.s=true):fJ P w0 M0 s ((s.cD true id (.arr e (xs.take n))).put t (.own id)):=by
 rintro a w ⟨E,hs⟩
 obtain⟨htn,hsv⟩:=hs.slots t _ ht
 obtain⟨hle,ad,len,cap,hc,hv⟩:=hsv e xs hl
 rw[aaV] at hle
 obtain⟨vals,⟨h1,hownF⟩,h2,h3⟩:=hs.wok.objs id _ hl
 have hv':a.tmps.getD t undef=.slice ad n cap:=by
  rw[hv];unfold sliced
  simp only[Nat.zero_mul,aaV,abH,Value.slice.injEq,and_true]
  cases ad with
  | none=>simp
  | some p=>split<;>simp[IP]
 have hob:(Value.slice ad n cap).ownBlock=(E.cur id).ownBlock:=by rw[hc];cases ad<;>rfl
 have hmul:n*P.cellsOf e≤xs.length*P.cellsOf e:=aa2 _ hle
 have hown:w.ownsRow 0 e (P.cellsOf e) (.slice ad n cap) (xs.take n).length (vals.take (n*P.cellsOf e)):=by
  obtain⟨hvl,hform⟩:=h1
  refine⟨by rw[aaa,aaa,abZ ace,abZ hle],?_⟩
  have hxl:(xs.take n).length=n:=by simp;omega
  rw[hxl]
  rcases hform with⟨hv0,hn0⟩|⟨g,cap',cur,hv0,hgb,hh,hnc,hcm,hcs,htake⟩
  ·rw[hv0] at hc
   simp only[Value.slice.injEq] at hc
   obtain⟨rfl,rfl,rfl⟩:=hc
   exact .inl ⟨by rw[show n=0 by omega],ace⟩
  ·rw[hv0] at hc
   simp only[Value.slice.injEq] at hc
   obtain⟨rfl,rfl,rfl⟩:=hc
   refine .inr ⟨g,cap',cur,rfl,hgb,hh,ace,hcm,hcs,?_⟩
   rw[←htake,List.take_take,abZ hmul]
 have h4:=hs.cD (E':={ E with cur:=fun i=>if i=id then .slice ad n cap else E.cur i }) (w':=w) (id:=id) (ob':=.arr e (xs.take n)) true (fun h=>by cases h) hnd aa (fun j hj=>⟨by simp[hj],rfl⟩) (.inr rfl) none ⟨rfl,rfl,rfl,Z1 _,fun _ _ _=>rfl⟩ (fun _=>Z1 _) (fun g hg=>by cases hg) (fun b hb=>.inl ⟨_,hl,by
   simp only[bE,if_true] at hb ⊢
   rw[←hob];exact hb⟩) (fun rep _=>?_)
 ·exact⟨_,h4.CV (by simpa[St.cD] using htn) (by rw[hv'];exact e8)⟩
 ·refine⟨vals.take (n*P.cellsOf e),⟨by simp only[if_true];exact hown,fun b hb=>hownF b (by simp only[if_true] at hb;rw[←hob];exact hb)⟩,fun x hx=>h2 x (aa6 hx),fun j d hd=>?_⟩
  have hjx:(flat xs)[j]?=some d:=by
   rw[←aa3 n xs,fT,aan (aaf.1 hd).1];exact hd
  have hjl:j<n*P.cellsOf e:=by
   have h4:=(aaf.1 hd).1
   rw[bN _ (fun x hx=>h2 x (aa6 hx)),aaa,abZ hle] at h4
   exact h4
  have:=h3 j d hjx
  refine⟨this.1,?_⟩
  have h6:=rep .pl _ _ this.2 (by simp)
  rw[ZY] at h6
  rw[ZY,aaG,if_pos hjl]
  exact h6
theorem pj {ops:Array Oper}{Q:St→Prop}{l':List Oper}{n:Nat}(t:Nat)(ht:s.s.lookup t=some (.vsl id 0 n))(hl:s.o.lookup id=some (.arr e xs))(aa:∀b,M0 b→b<w0.w.heap.size)(hnd:Nodup s.s=true)(h:ki P w0 M0 ops Q l' ((s.cD true id (.arr e (xs.take n))).put t (.own id))):ki P w0 M0 ops Q l' s :=
 ki.imp (IQ ht hl aa hnd) h
end
open Go.ChangeShapes Go.WideShapes Go.Deep
section
variable {H:Type} {enc:TypeId×Value→H}{P:Program}{w:World}{base:Nat}{spare:Nat→Bool}{held:Bool}
theorem CW {α:Type}{p:Nat→α→Prop}(n:Nat)(h:∀i,i<n→∃a,p i a):∃l:List α,l.length=n∧∀i a,l[i]?=some a→p i a:=by
 induction n with
 | zero=>exact⟨[],rfl,fun i a h=>by simp at h⟩
 | succ n ih =>
   obtain⟨l,hl,hp⟩:=ih fun i hi=>h i ace
   obtain⟨a,ha⟩:=h n ace
   refine⟨l++[a],by simp[hl],fun i b hb=>?_⟩
   rcases aaq i n with hi|hi
   · rw [aan ace] at hb
     exact hp i b hb
   · rw [aal ace] at hb
     have:i-l.length=0:=by
       have:=(aaf.1 hb).1
       simp at this;omega
     rw[this] at hb
     simp only[aat,Option.some.injEq] at hb
     subst hb
     rw[show i=n by omega];exact ha
theorem IS {α:Type}{ad:α→AV}{ok:α→Prop}{t e:TypeId}(ht:P.underlying t=some (.slice e))(hc:P.cellsOf e=1)(hleaf:∀a,AV.leaf (ad a)=true∧AV.cells (ad a)=[ad a])
   (hel:∀(n:Nat)(v:Value) x,DataW.trod enc P w base spare held n e [v]=some x→∃a,ok a∧bJ w (fun _=>False) v (ad a)){n:Nat}{v:Value}{x:DataW H×List MemPlace}(h:DataW.trod enc P w base spare held n t [v]=some x) :
   ∃l:List α,(∀a∈l,ok a)∧l.length≤9223372036854775807∧bJ w (fun _=>False) v (.sl (l.map ad)):=by
 rcases open_slice1 ht hc h with⟨h1,_⟩|⟨a,len,cap,m,n',V,D,Pl,h1,hb,hl,hm,hmm,hx,hall⟩
 · simp only [List.cons.injEq, and_true] at h1
   subst h1
   exact⟨[],fun a ha=>(by cases ha),(by simp),.sl none 0 0 [] 1 (fun _=>undef) J (Z1 _) (fun x hx=>by cases hx) (fun h=>absurd h ace) (fun j d hd=>by simp[flat] at hd) (fun j d hd=>by simp[flat] at hd)⟩
 · simp only [List.cons.injEq, and_true] at h1
   subst h1
   have hlm:len≤m:=by rw[hmm];split<;>omega
   obtain⟨l,hll,hlp⟩:=CW (p:=fun i a=>ok a∧bJ w (fun _=>False) (V i) (ad a)) len fun i hi=>hel n' (V i) _ (hall i ace).2
   have hfl:flat (l.map ad)=l.map ad:=by
     clear hll hlp
     induction l with
     | nil=>rfl
     | cons a r ih=>simp only[flat,aaL,aa7] at ih ⊢;rw[ih,(hleaf a).2];rfl
   refine⟨l,fun a ha=>?_,by rw[hll];unfold maxLen at hm;omega,?_⟩
   · obtain ⟨i, hi, rfl⟩ := aaR ha
     exact(hlp i _ (Z3 hi)).1
   · refine .sl (some a) len cap _ 1 V (by simpa using hll) hl (fun x hx => ?_) (fun h0 => ?_) (fun j d hd => ?_) (fun j d hd => ?_)
     · obtain ⟨z, _, rfl⟩ := aao.1 hx
       rw[(hleaf z).2];rfl
     · have h3 := (hall 0 ace).1
       have h4:w.cell? a=some (V 0):=by simpa[Addr.add] using h3
       obtain⟨b,o,sp⟩:=a
       have hsp:sp=none:=World.cell?_spot h4
       subst hsp
       refine⟨b,o,rfl,fun hf=>hf,World.block_lt_of_cell? w ⟨b,o,none⟩ h4,fun j hj=>?_⟩
       have:=(hall j ace).1
       rwa [Addr.add_lit] at this
     · rw [hfl, Z6, Z4] at hd
       obtain⟨z,_,rfl⟩:=hd
       exact(hleaf z).1
     · rw [hfl, Z6, Z4] at hd
       obtain⟨z,hz,rfl⟩:=hd
       exact(hlp j z hz).2
theorem K4 {e:TypeId}(he:P.underlying e=some (.int .i64))(n:Nat)(v:Value)(x:DataW H×List MemPlace)(h:DataW.trod enc P w base spare held n e [v]=some x) :
  ∃z:Int,(-9223372036854775808≤z∧z≤9223372036854775807)∧bJ w (fun _=>False) v (int z):=by
 obtain⟨z,h1,hx,hw⟩:=DataW.trod_int he h
 simp only[List.cons.injEq,and_true] at h1
 subst h1
 exact⟨z,bounds_i64 hw,.sc _ J⟩
theorem IT {t e:TypeId}{r:Reach}{b0:Nat}{v:Value}(ht:P.underlying t=some (.slice e))(hval:Value.okWide P w r b0 t v):v.cells.toList=[v]:=by
 obtain⟨a,len,cap,rfl⟩:=okWide_slice ht hval;rfl
theorem wI {t e:TypeId}{r:Reach}{b0:Nat}{v:Value}{d:DataW H}{ps:List MemPlace}(ht:P.underlying t=some (.slice e))(he:P.underlying e=some (.int .i64))(hc:bW P e=some 1)(hval:Value.okWide P w r b0 t v)(hd:DataW.Trod enc P w base spare held t v d ps) :
  ∃l:List Int,(∀a∈l,-9223372036854775808≤a∧a≤9223372036854775807)∧l.length≤9223372036854775807∧bJ w (fun _=>False) v (.sl (l.map int)):=by
 obtain⟨n,hn⟩:=hd
 rw[IT ht hval] at hn
 exact IS ht (cL hc) (fun a=>⟨rfl,rfl⟩) (K4 he) hn
theorem qY (hl:laidOutB P=true){W W':World}{sp':Nat→Bool}:∀{ts:List TypeId}{vs:List Value}{ds:List (DataW H)}{ps:List MemPlace},(∀t∈ts,P.readableRec t=true∧t<P.types.size) →
   DataW.TrodAll enc P W base (fun _=>true) true ts vs ds ps→(∀p∈ps,W.sameAt W' p)→(∀p∈ps,sp' p.block=true)→DataW.TrodAll enc P W' base sp' true ts vs ds ps
 | [],[],[],_,_,h,_,_=>h
 | t :: ts, v :: vs, d :: ds, _, ht, ⟨p, q, h1, h2, e⟩, hs, hp => ⟨p, q, WideElems.Trod_stays hl (ht t Z7).1 (ht t Z7).2 h1 (fun x hx => hs x (by rw [e]; exact abA _ hx)) (fun x hx => hp x (by rw [e]; exact abA _ hx)),
     qY hl (fun t ht'=>ht t (aac _ ht')) h2 (fun x hx=>hs x (by rw[e];exact aby _ hx)) (fun x hx=>hp x (by rw[e];exact aby _ hx)),e⟩
theorem K5 {D:Prop}{f:Func}{fid:FuncId}{s:ChangeSpec}{W:World}{args:Array Value}{ds gs:List (DataW H)}{before:List MemPlace}{tb:TypeId}(hl:laidOutB P=true)(hrec:(f.params.toList.all fun t=>P.readableRec t&&decide (t<P.types.size))=true)(hres:f.resultTypes=#[tb])(htb:P.underlying tb=some .bool)
  (hvars:s.vars=[])(hfn:s.fn H (ds++[])={ results:=[.lit (.bool true)],args:=ds,vars:=[] })(hW:DataW.Whole enc P f.params.toList s.vars false W args.toList ds gs before)
  (hcall:Calls P fid args W fun e W'=>∃v,e=.returned v∧bF D W.heap.size W W'∧iI P W' (fun b=>b<W.heap.size) (fun b=>b<W.heap.size) v (.p (bool true))) :
  Calls P fid args W fun e W'=>∃v,e=.returned v∧s.post enc P f false true false false W args v W':=by
 have hW':=hW
 obtain⟨p,q,hA,hV,hps,hfz,hnd⟩:=hW
 rw[hvars] at hV
 obtain⟨hg,hq⟩:=trodVars_none hV
 subst hg hq
 refine hcall.mono fun e W' ⟨v,he,hb,hrv⟩=>⟨v,he,?_⟩
 have hv:v=.bool true:=by
  have h:bJ W' _ v (bool true):=hrv
  generalize hz:bool true=z at h
  cases h<;>simp_all
 subst hv
 have hlt:∀x∈p,x.block<W.heap.size:=fun x hx=>hA.lt x hx
 have htrue:∀(b:Nat)(sp:Nat→Bool)(hd:Bool),DataW.TrodAll enc P W' b sp hd f.resultTypes.toList ((Value.bool true).resultList f.resultTypes.size) (s.fn H (ds++[])).results []:=fun b sp hd=>by
  rw[hfn,hres];exact trodAll_cons_mk (shut_bool htb _) trodAll_mk0
 have hargs:∀sp:Nat→Bool,(∀x∈before,sp x.block=true)→DataW.TrodAll enc P W' 0 sp true f.params.toList args.toList (s.fn H (ds++[])).args p:=fun sp hsp=>by
  rw[hfn]
  refine qY hl (fun t ht=>?_) hA (fun x hx=>hb.toBelow.same (hlt x hx)) (fun x hx=>hsp x (by rw[hps];exact abA _ hx))
  have:=aam.1 hrec t ht
  simpa using this
 have hold:∀x∈before,(fun b=>decide (b<W.heap.size)) x.block=true:=fun x hx=>by simpa using hW'.lt x hx
 have hvr:∀sp:Nat→Bool,DataW.TrodVars enc P W' sp s.vars (s.fn H (ds++[])).vars []:=fun sp=>by rw[hfn,hvars];rfl
 refine⟨ds,[],before,[],p,[],hW',htrue _ _ _,hargs _ hold,hvr _,World.keptBut_mono (fun x hx=>hx) (hb.toBelow.frame _),fun _=>?_⟩
 refine⟨ok_one (t:=tb) hres J (okWide_bool_mk htb _),_,_,([]++p)++[],⟨[]++p,[],trodAll_append (hargs _ (fun _ _=>rfl)) (htrue _ _ _),hvr _,rfl,?_,fun h=>by cases h⟩,?_⟩
 ·intro b off hp
  have hp':MemPlace.cell b off∈before:=by rw[hps];simpa using hp
  exact(hb.toBelow.frozen (p:=⟨b,off,none⟩) (hW'.lt _ hp')).trans (hfz b off hp')
 ·intro x hx _
  rw[hps];simpa using hx
end
def K6 (w:World)(M:Nat→Prop):List Value→List AV→Prop
 | [],[]=>True
 | v :: vs,d :: ds=>bJ w M v d∧K6 w M vs ds
 | _,_=>False
theorem K6.get {w:World}{M:Nat→Prop}:∀{vs:List Value}{ds:List AV},K6 w M vs ds→vs.length=ds.length∧∀(j:Nat) d,ds[j]?=some d→bJ w M (vs.getD j undef) d
 | [],[],_=>⟨rfl,fun j d hd=>by simp at hd⟩
 | v :: vs, d :: ds, h => by
   obtain⟨h1,h2⟩:=h
   obtain⟨h3,h4⟩:=K6.get h2
   refine⟨by simp[h3],fun j e he=>?_⟩
   cases j with
   | zero=>simp only[aat,Option.some.injEq] at he;subst he;exact h1
   | succ j=>exact h4 j e (by simpa using he)
theorem aq.use {P:Program}{f:FuncId}{ds:List AV}{r:RV}(h:aq P f ds r){w:World}{vs:List Value}(hr:K6 w (fun _=>False) vs ds) :
  Calls P f vs.toArray w fun e w'=>∃v,e=.returned v∧Below w.heap.size w w'∧iI P w' (fun b=>b<w.heap.size) (fun b=>b<w.heap.size) v r :=
 h.2 w vs hr.get.1 hr.get.2
section
variable {P:Program} {w0:Fr}{M0:Nat→Prop}{s s':St}
def K7 (Q:Exit→St→Prop):Exit→St→Prop
 | .goto _,_=>False
 | e,s=>Q e s
theorem Fi {c:Code}{Q:Exit→St→Prop}(h:ao P w0 M0 c s (K7 Q)):ao P w0 M0 (.scope c) s Q:=by
 intro a w hs
 refine rz (iQ (h a w hs) fun e a' w' ⟨s',h1,h2⟩=>?_)
 cases e<;>first|exact h1.elim|exact⟨s',h1,h2⟩
theorem Fj {l:Nat}{Q:Exit→St→Prop}(h:Q .normal s):ao P w0 M0 (.label l) s Q:=fun a w hs=>Iy ⟨s,h,hs⟩
section ops
variable {o:Oper} {ρ:Operand→Option SV}{ob:List (Nat×Ob)}{x y z:Operand}{T T' e:TypeId}{k q:IntKind}{a b:Int}{c:fQ}
theorem K8 (ho:o.op=.binOp .shr T x y T')(hx:bj ρ x=some (.int k a))(hy:bj ρ y=some (.int q b))(hb:0≤b):Pure P w0 M0 o ρ ob (.v .pl (.sc (.int k (a.fdiv (2 ^ (min b.toNat k.bits)))))) :=
 eu ho hx hy rfl rfl (fun w=>by simp only[binOp_shr,Op.shift,if_neg (show ¬b<0 by omega),Sem.run_pure])
theorem dF {c:fQ}{a a':Int}(h:Pure P w0 M0 o ρ ob (.v c (.sc (.int k a))))(e:a=a'):Pure P w0 M0 o ρ ob (.v c (.sc (.int k a'))):=by
 subst e;exact h
abbrev Hb (n:Int):AV:=.sc (.int .u8 n)
theorem wJ:∀ l:List Int,rF (l.map Hb)=some l
 | []=>rfl
 | n :: r => by
   show(match rF (r.map Hb) with|some l=>some (n :: l)|none=>none)=_
   rw[wJ r]
theorem Fk {l:List Int}(ho:o.op=.convert T T' x)(hT:P.underlying T=some (.slice e))(he:P.underlying e=some (.int .u8))(hT':P.underlying T'=some .string)(hx:viewAt ρ ob x=some (c,.sl (l.map Hb))) :
 Pure P w0 M0 o ρ ob (.v .pl (aj (l.map fun n=>UInt8.ofNat n.toNat))):=tN ho hT he hT' hx (wJ l)
theorem qm {va:Option Addr}{n m n' m':Nat}(ho:o.op=.binOp .eql T x y T')(hT:P.underlying T=some (.slice e))(hx:bj ρ x=some (.slice va n m))(hy:bj ρ y=some (.slice none n' m')):Pure P w0 M0 o ρ ob (.v .pl (bool va.isNone)) :=
 aE fun E w ev hw h=>by
  have hxv:ev x=.slice va n m:=ck h hx
  have hyv:ev y=.slice none n' m':=ck h hy
  exact⟨.bool va.isNone,w,by simp[execOp,ho,hxv,hyv,eqGuard,Lib.run_eql_slice_nil w _ _ _ _ _ _ _ hT],.refl _ _,.sc _ J⟩
theorem sG {xs:List AV}{n' m':Nat}(ho:o.op=.binOp .eql T x y T')(hT:P.underlying T=some (.slice e))(hx:viewAt ρ ob x=some (c,.sl xs))(hy:bj ρ y=some (.slice none n' m'))(h0:0<xs.length):Pure P w0 M0 o ρ ob (.v .pl (bool false)) :=
 aE fun E w ev hw h=>by
   have hr:=cz hw h hx
   have hyv:ev y=.slice none n' m':=ck h hy
   generalize hq:ev x=q at hr
   cases hr with
   | sl a n cap _ k cv hn hc hk hb hl hr =>
     obtain⟨b,of,rfl,_⟩:=hb ace
     exact⟨.bool false,w,by simp[execOp,ho,hq,hyv,eqGuard,Lib.run_eql_slice_nil w _ _ _ _ _ _ _ hT],.refl _ _,.sc _ J⟩
theorem Hc {s:St}{y:Operand}{va:Option Addr}{m k:Nat}(hy:bj s.ev y=some (.slice va 0 m)):Src P w0 M0 s y k []:=by
 intro E a w hs
 have hv:a.eval y=.slice va 0 m:=ck (ρ:=s.ev) (ob:=s.o) (fun x e hx=>hs.ev hx) hy
 exact⟨va,0,m,[],hv,rfl,by simp,fun h=>absurd h ace,fun x hx=>(by cases hx),fun j d hd=>(by simp[flat] at hd)⟩
end ops
end
end Go.Am
