/-
  Part of the proof.
-/
import Derived.Test.YtlapahnodhmcpaaGreatJ0
import Derived.Test.YtlapahnodhmcpaaGreatJ4
import Derived.Lib.SmallJoins
set_option linter.unusedVariables false
set_option linter.unusedSectionVars false
set_option linter.unusedSimpArgs false
set_option maxRecDepth 100000
set_option maxHeartbeats 40000000
namespace Go.Am
open Go.RowKit
def c3:SV→List SV
 | .v c (.agg cs)=>cs.map (.v c)
 | d=>[d]
def SV.SP:SV→Bool
 | .v _ (.tup _)=>false
 | _=>true
def rH {α:Type}(l:List α)(off:Nat)(m:List α):List α:=l.take off++m++l.drop (off+m.length)
variable{α:Type}
theorem dz {l m:List α}{off:Nat}(h:off+m.length≤l.length):(rH l off m).length=l.length:=by simp[rH];omega
theorem fA {l m:List α}{off:Nat}(h:off+m.length≤l.length)(j:Nat):(rH l off m)[j]?=if off≤j∧j<off+m.length then m[j-off]? else l[j]?:=by
 unfold rH;rw[aaY];have ht:(l.take off).length=off:=by simp;omega
 rcases aaK j off with h1|h1
 ·rw[aaH acK,aa1,if_pos h1,if_neg acK]
 ·rw[aaE acK,ht];rcases aaK (j-off) m.length with h2|h2
  ·rw[aaH h2,if_pos acK]
  ·rw[aaE h2,abE,if_neg acK]
   congr 1;omega
variable{w:World}{E:Env}{n f fo fk i:Nat}{a0:AV}{fg:Bool}
section
variable {P:Program} {w0:Fr}{M0:Nat→Prop}
variable {o:Oper} {ρ:Operand→Option SV}{ob:List (Nat×Ob)}{d:SV}{x y:Operand}{T T' e:TypeId}{k b:Nat}{c:fW}{id off:Nat}{cs:List SV}{s:St}{t:Nat}
theorem vr {ob:List (Nat×Ob)}{v:Value}{d:SV}(h:bm P M0 w E ob v d)(hd:d≠.dead)(h1:d.SP=true)(ho:(∃c a,d=.v c a)∨v.oneCell'=true) :
   v.cells.size=(c3 d).length∧∀(j:Nat) sv,(c3 d)[j]?=some sv→SV.leaf sv=true∧(v.cells.getD j undef).oneCell'=true∧bm P M0 w E ob (v.cells.getD j undef) sv:=by
 have single:∀(u:Value),u.oneCell'=true→u.cells=#[u]:=by intro u hu;cases u<;>simp_all [Value.cells,Value.oneCell']
 have triv:(∀sv:SV,c3 d=[d]→SV.leaf d=true→v.oneCell'=true→v.cells.size=(c3 d).length∧∀(j:Nat) sv,(c3 d)[j]?=some sv→SV.leaf sv=true∧(v.cells.getD j undef).oneCell'=true∧bm P M0 w E ob (v.cells.getD j undef) sv):=by
   intro _ hb hl hv;rw[hb,single v hv];refine⟨rfl,fun j sv hj=>?_⟩;cases j with
   | zero=>simp at hj;subst hj;exact⟨hl,hv,h⟩
   | succ j=>simp at hj
 cases d with
 | v c d =>
   have hnt:∀vs,d≠.tup vs:=fun vs he=>by subst he;cases h1
   have hr:bJ w (cB M0 (owned E ob) c) v d:=h;obtain⟨g1,g2,g3⟩:=hr.cells hnt;cases d with
   | agg cs =>
     refine⟨by simp[g1,c3,AV.cells],fun j sv hj=>?_⟩;simp only[c3,aap,aao] at hj;obtain⟨a,ha,rfl⟩:=hj;have h2:=g2 j a ha;have h3:=g3 j a ha;exact⟨h2,h3.one h2,h3⟩
   | sc u=>exact triv .dead rfl rfl (hr.one rfl)
   | sl xs=>exact triv .dead rfl rfl (hr.one rfl)
   | tup xs=>exact absurd rfl (hnt xs)
   | pc a b=>exact triv .dead rfl rfl (hr.one rfl)
   | clo a b=>exact triv .dead rfl rfl (hr.one rfl)
   | mp a b=>exact triv .dead rfl rfl (hr.one rfl)
 | own i=>exact triv .dead rfl rfl (by rcases ho with⟨c,a,h⟩|h;cases h;exact h)
 | pel i j q=>exact triv .dead rfl rfl (by rcases ho with⟨c,a,h⟩|h;cases h;exact h)
 | pbox i q=>exact triv .dead rfl rfl (by rcases ho with⟨c,a,h⟩|h;cases h;exact h)
 | omap i=>exact triv .dead rfl rfl (by rcases ho with⟨c,a,h⟩|h;cases h;exact h)
 | vsl i j q=>exact triv .dead rfl rfl (by rcases ho with⟨c,a,h⟩|h;cases h;exact h)
 | fn i j=>exact triv .dead rfl rfl (by rcases ho with⟨c,a,h⟩|h;cases h;exact h)
 | hid i j=>exact triv .dead rfl rfl (by rcases ho with⟨c,a,h⟩|h;cases h;exact h)
 | nst i=>exact triv .dead rfl rfl (by rcases ho with⟨c,a,h⟩|h;cases h;exact h)
 | nel i j=>exact triv .dead rfl rfl (by rcases ho with⟨c,a,h⟩|h;cases h;exact h)
 | dead=>exact absurd rfl hd
theorem ba.F6 {a:Act}{cells:Array Value}(h:ba P w0 M0 E s a w)(hnd:Nodup s.s=true)(aa:∀b,M0 b→b<w0.w.heap.size)(hpt:t<1000000)(hl:cells.size=cs.length)
  (hc:∀(j:Nat) sv,cs[j]?=some sv→SV.leaf sv=true∧(cells.getD j undef).oneCell'=true∧bm P M0 w E s.o (cells.getD j undef) sv∧sv.stays true t=true) :
  ba P w0 M0 { E with blk:=fun i=>if i=t then w.heap.size else E.blk i } (s.cC true t (.box e cs)) a (w.alloc (.cells cells e)):=by
 refine h.cC true (fun h=>by cases h) hnd aa (fun i hi=>⟨rfl,by simp[hi]⟩) (.inl (BI hpt)) none (World.grownBy_alloc w _ none) (fun _=>aak _) (fun g hg=>by cases hg) (fun b hb=>.inr ?_) (fun rep sv=>?_)
 ·simp only[bE,if_true] at hb;omega
 ·refine⟨cells.toList,by simp only[if_true];simpa using heap_alloc_new w (.cells cells e),by simp only[if_true];exact h.wok.hJ aa (aak _),by simpa using hl,fun j d hd=>?_⟩;obtain⟨h1,h2,h3,h4⟩:=hc j d hd;have e1:cells.toList.getD j undef=cells.getD j undef:=by rw[aag,aaL,aaS]
  rw[e1];exact⟨h1,h2,sv _ _ h3 h4⟩
theorem r8 {o:List (Nat×Ob)}{cs:List SV}:bm P M0 w { E with blk:=fun i=>if i=t then n else E.blk i } (ins t (.box e cs) o) (.pointer (some ⟨n,0,none⟩)) (.pbox t 0):=by intro e' cs' _;simp
theorem cM {zs:List Value}(ho:o.op=.alloc T)(hd:o.dst=some t)(hn:Nat.blt t s.n=true)(hpt:Nat.blt t 1000000=true)(hnd:Nodup s.s=true)(hz:zeroOf P T=some zs)(hzs:zs.all Value.oneCell'=true)(aa:∀b,M0 b→b<w0.w.heap.size) :
   Step P w0 M0 o s ((s.cC true t (.box T (zs.map fun z=>.v .pl (.sc z)))).put t (.pbox t 0)):=by
 rintro a w Q ⟨E,hs⟩;unfold zeroOf at hz;cases hi:P.info? T with
 | none=>rw[hi] at hz;cases hz
 | some it =>
   rw[hi] at hz;simp only[abO,aao] at hz;obtain⟨z,hz1,hz2⟩:=hz;unfold Oper.wp;have hexec:(execOp a.eval o).run P w=.ok (.value (.pointer (some ⟨w.heap.size,0,none⟩))) (w.alloc (.cells z.cells T)):=by
     simp[execOp,ho,Instr.alloc,zeroValue,typeInfo,hi,hz1,newVar,newRow]
   rw[hexec];simp only[Oper.upon,hd];refine⟨{ E with blk:=fun i=>if i=t then w.heap.size else E.blk i },ba.put ?_ (by simpa[St.cC] using hn) r8⟩;refine hs.F6 hnd aa (aaT (acj (aah hpt)) (aak _)) (by rw[←hz2];simp) (fun j sv hj=>?_);rw[aap,aao] at hj;obtain⟨u,hu,rfl⟩:=hj;have h1:u.oneCell'=true:=by rw[aaF] at hzs;exact hzs u (aaW hu)
   have h2:z.cells.getD j undef=u:=by rw[aaL,←aaS,hz2,hu];rfl
   rw[h2];exact⟨rfl,h1,.sc u h1,rfl⟩
theorem LF (ho:o.op=.box T x)(hd:o.dst=some t)(hn:Nat.blt t s.n=true)(hpt:Nat.blt t 1000000=true)(hnd:Nodup s.s=true)(hx:s.ev x=some (.v c a0))(hnt:jm a0=true)(hc:c≠.vw)(aa:∀b,M0 b→b<w0.w.heap.size) :
  Step P w0 M0 o s ((s.cC true t (.box T (c3 (.v c a0)))).put t (.pbox t 0)):=by
 rintro a w Q ⟨E,hs⟩;have hv:=hs.ev hx;obtain⟨g1,g2⟩:=vr hv (by simp) (by cases a0<;>simp_all [SV.SP,jm]) (.inl ⟨c,a0,rfl⟩);unfold Oper.wp;have hexec:(execOp a.eval o).run P w=.ok (.value (.pointer (some ⟨w.heap.size,0,none⟩))) (w.alloc (.cells (a.eval x).cells T)):=by
  simp[execOp,ho,Instr.box,newVar,newRow]
 rw[hexec];simp only[Oper.upon,hd];refine⟨{ E with blk:=fun i=>if i=t then w.heap.size else E.blk i },ba.put ?_ (by simpa[St.cC] using hn) r8⟩;refine hs.F6 hnd aa (aaT (acj (aah hpt)) (aak _)) g1 (fun j sv hj=>?_);obtain⟨h1,h2,h3⟩:=g2 j sv hj;refine⟨h1,h2,h3,?_⟩;have:∃d',sv=.v c d':=by
  cases a0<;>simp only[c3] at hj
  case agg cs=>rw[aap,aao] at hj;obtain⟨u,_,rfl⟩:=hj;exact⟨u,rfl⟩
  all_goals (cases j<;>simp at hj;subst hj;exact⟨_,rfl⟩)
 obtain⟨d',rfl⟩:=this;cases c<;>first|rfl|exact absurd rfl hc
theorem LG (ho:o.op=.box T x)(hx:viewAt ρ ob x=some (c,a0))(hnt:jm a0=true)(aa:∀b,M0 b→b<w0.w.heap.size):Pure P w0 M0 o ρ ob (.v c (.pc a0.cells 0)) :=
 aD fun E w ev hw h=>by
   have hr:=cz hw h hx;obtain⟨g1,g2,g3⟩:=hr.cells (fun vs he=>by subst he;cases hnt);have hb:bB w0.dr w.heap.size w (w.alloc (.cells (ev x).cells T)):=(Below.refl _ _).alloc (aak _) _;refine⟨.pointer (some ⟨w.heap.size,0+0,none⟩),w.alloc (.cells (ev x).cells T),by simp[execOp,ho,Instr.box,newVar,newRow],hb,
     .pc _ 0 0 _ (fun j=>(ev x).cells.getD j undef) (fun hM=>?_) (by simp) (fun j hj=>?_) g2 (fun j d hd=>(g3 j d hd).under hb)⟩
   · cases c with
     | pl =>
       rcases hM with hM|hM
       · have:=aa _ hM;have:=hw.below.size;omega
       · have:=(hw.bF hM).2;omega
     | mx=>have:=(hw.bF hM).2;omega
     | vw=>exact hM
   · rw[cell_of_row _ w.heap.size (0+j) _ T (0,0) (heap_alloc_new w _),abg,aaL,aaM acK];rfl
theorem Aj (hT:pv P T f=some (fo,fk+1,fg))(w:World)(g p:Nat):(Instr.fieldAt T (.pointer (some ⟨g,p,none⟩)) f).run P w=.ok (.pointer (some ⟨g,p+fo,none⟩)) w:=by
 unfold pv at hT;split at hT
 · rename_i fs hs
   cases hf:fs[f]? with
   | none=>rw[hf] at hT;cases hT
   | some fd =>
     rw[hf] at hT;simp only[abO,abc,aao,abk] at hT;obtain⟨k1,hk1,g1,hg1,UB,Xt,_⟩:=hT;subst Xt;simp[Instr.fieldAt,run_underlying hs,hf,Instr.sureAddr,fieldPlace,dt hk1,Addr.add_lit,UB]
 · cases hT
theorem xk (ho:o.op=.fieldAddr T x f)(hT:pv P T f=some (fo,fk+1,fg))(hx:ρ x=some (.pbox id off))(hl:ob.lookup id=some (.box e cs)):Pure P w0 M0 o ρ ob (.pbox id (off+fo)) :=
 aD fun E w ev hw h=>by
  have hr:=h x _ hx e cs hl;exact⟨_,w,by simp only[execOp,ho,hr,Sem.run_bind,Aj hT,Result.andThen_ok,Sem.run_pure],.refl _ _,fun e' cs' h'=>rfl⟩
theorem l9 {xs:List AV}(ho:o.op=.fieldAddr T x f)(hT:pv P T f=some (fo,fk+1,fg))(hx:ρ x=some (.pel id i off))(hl:ob.lookup id=some (.arr e xs)):Pure P w0 M0 o ρ ob (.pel id i (off+fo)) :=
 aD fun E w ev hw h=>by
  obtain⟨hi,g,hg,hr⟩:=h x _ hx e xs hl;refine⟨_,w,by simp only[execOp,ho,hr,Sem.run_bind,Aj hT,Result.andThen_ok,Sem.run_pure];rfl,.refl _ _,fun e' xs' h'=>?_⟩;rw[hl] at h';simp only[aaj,Ob.arr.injEq] at h';obtain⟨rfl,rfl⟩:=h';exact⟨hi,g,hg,by rw[Nat.add_assoc]⟩
theorem ae {sv:SV}(ho:o.op=.load T x)(hT:bo P T=some false)(hx:ρ x=some (.pbox id off))(hl:ob.lookup id=some (.box e cs))(he:cs[off]?=some sv):Pure P w0 M0 o ρ ob sv :=
 aD fun E w ev hw h=>by
  have hr:=h x _ hx e cs hl;obtain⟨vals,h1,h2,h3,h4⟩:=hw.objs id _ hl;refine⟨vals.getD off undef,w,?_,.refl _ _,(h4 off sv he).2.2⟩;have hlt:off<vals.length:=by rw[h3];exact(aaz.1 he).1
  have hc:w.cell? ⟨E.blk id,off,none⟩=some (vals.getD off undef):=by
   rw[cell_of_row w _ off _ e (0,0) h1];simp[aag,aal hlt]
  simp[execOp,ho,hr,Instr.loadAt,Instr.sureAddr,loadVar,dj hT,hc]
def jA (ob:List (Nat×Ob)):List SV→Option (fW×List AV)
 | []=>some (.pl,[])
 | d :: r => match view ob d, jA ob r with
   | some (c,a),some (c',azs)=>bif a.leaf then some (c.max c',a :: azs) else none
   | _,_=>none
theorem lF {E:Env} {w:World} (hw:gr P w0 M0 E ob w):∀ (l:List SV) (vs:List Value) (c:fW) (azs:List AV),vs.length=l.length→(∀ (j:Nat) d,l[j]?=some d→bm P M0 w E ob (vs.getD j undef) d)→jA ob l=some (c,azs) →
   l.length=azs.length∧∀(j:Nat) a,azs[j]?=some a→AV.leaf a=true∧bJ w (cB M0 (owned E ob) c) (vs.getD j undef) a
 | [], vs, c, azs, _, _, hv => by
   simp only[jA,aaj,abk] at hv;obtain⟨rfl,rfl⟩:=hv;exact⟨rfl,fun j a h=>by simp at h⟩
 | d :: r, vs, c, azs, hl, h, hv => by
   cases vs with
   | nil=>simp at hl
   | cons v vs =>
     unfold jA at hv;split at hv
     · rename_i c1 a1 c2 as2 h1 h2
       cases hlf:a1.leaf with
       | false=>rw[hlf] at hv;cases hv
       | true =>
         rw[hlf] at hv;simp only[cond_true,aaj,abk] at hv;obtain⟨rfl,rfl⟩:=hv;obtain⟨g1,g2⟩:=lF hw r vs c2 as2 (by simpa using hl) (fun j d hd=>by simpa using h (j+1) d (by simpa using hd)) h2;refine⟨by simp[g1],fun j a ha=>?_⟩;cases j with
         | zero =>
           simp only[aaN,aaj] at ha;subst ha;exact⟨hlf,(HL hw (by simpa using h 0 d J) h1).cd (qL c1 c2)⟩
         | succ j =>
           have:=g2 j a (by simpa using ha);exact⟨this.1,by simpa using this.2.cd (qM c1 c2)⟩
     · cases hv
theorem jR {azs:List AV}(ho:o.op=.load T x)(hT:bo P T=some true)(hk:bY P T=some k)(hx:ρ x=some (.pbox id off))(hl:ob.lookup id=some (.box e cs))(hle:Nat.ble (off+k) cs.length=true)(hv:jA ob ((cs.drop off).take k)=some (c,azs)) :
   Pure P w0 M0 o ρ ob (.v c (.agg azs)) :=
 aD fun E w ev hw h=>by
   have hr:=h x _ hx e cs hl;have hle':=aah hle;obtain⟨vals,h1,h2,h3,h4⟩:=hw.objs id _ hl;have hvl:((vals.drop off).take k).length=((cs.drop off).take k).length:=by simp;omega
   obtain⟨g1,g2⟩:=lF hw ((cs.drop off).take k) ((vals.drop off).take k) c azs hvl (fun j d hd=>by
     rw[aa1] at hd;split at hd
     · rename_i hj
       rw[abE] at hd;have:=(h4 _ d hd).2.2;rw[aag] at this ⊢;rwa [aa1,if_pos hj,abE]
     · cases hd) hv
   have hcell:=run_loadCells (P:=P) w ⟨E.blk id,off,none⟩ k (fun j=>vals.getD (off+j) undef) (fun j hj=>by
     rw[Addr.add_lit,cell_of_row w _ (off+j) _ e (0,0) h1];have:off+j<vals.length:=acK;simp[aag,aal this])
   have hkl:((vals.drop off).take k).length=k:=by simp;omega
   refine⟨.agg ((vals.drop off).take k).toArray,w,?_,.refl _ _,.agg _ _ (by rw[hvl,g1]) (fun j d hd=>(g2 j d hd).1) (fun j d hd=>(g2 j d hd).2)⟩;have e1:(List.range k).map (fun j=>vals.getD (off+j) undef)=(vals.drop off).take k:=by
     apply abe;intro j;simp only[aap,aa1,abE];rcases aaK j k with hj|hj
     · rw [if_pos hj]
       have:off+j<vals.length:=acK;simp[hj,aag,aal this]
     · rw[if_neg acK];simp;omega
   simp only[execOp,ho,hr,Instr.loadAt,Instr.sureAddr,loadVar,Sem.run_bind,dj hT,dt hk,Result.andThen_ok,Sem.run_pure,if_true,hcell,e1]
end
def c5 (id:Nat)(cs:List SV):List SV:=cs.map fun d=>if d.stays false id then d else .dead
def BK (el:AV)(cs:List AV):AV:=match el with
 | .agg _=>.agg cs
 | _=>cs.headD el
variable{el:AV}
theorem BL {cs:List AV}(h:cs.length=el.cells.length)(hl:∀d∈cs,AV.leaf d=true):(BK el cs).cells=cs:=by
 have one:el.cells.length=1→(∀c,el≠.agg c)→(BK el cs).cells=cs:=by
   intro h1 hna
   match cs,h,hl with
   | [d], _, hl =>
     have hd:=hl d (by simp);have:BK el [d]=d:=by cases el<;>first|rfl|exact absurd rfl (hna _)
     rw[this];cases d<;>simp_all [AV.cells,AV.leaf]
   | [],h,_=>simp at h;omega
   | _ :: _ :: _,h,_=>simp at h;omega
 cases el with
 | agg c=>rfl
 | sc v=>exact one rfl (by simp)
 | sl v=>exact one rfl (by simp)
 | tup v=>exact one rfl (by simp)
 | pc v w=>exact one rfl (by simp)
 | clo v w=>exact one rfl (by simp)
 | mp v w=>exact one rfl (by simp)
theorem LH {k off:Nat}{xs:List AV}{el':AV}{m:List AV}(hk:∀x∈xs,(AV.cells x).length=k)(hi:xs[i]?=some el)(hm:off+m.length≤k)(he:el'.cells=rH el.cells off m) :
   flat (xs.set i el')=rH (flat xs) (i*k+off) m:=by
 induction xs generalizing i with
 | nil=>simp at hi
 | cons x r ih =>
   have hx:=hk x aaq;have hr:∀y∈r,(AV.cells y).length=k:=fun y hy=>hk y (aav _ hy)
   cases i with
   | zero =>
     simp only[aaN,aaj] at hi;subst hi;simp only[List.set_cons_zero,flat,abt,Nat.zero_mul,abg,he,rH];rw[List.take_append_of_le_length acK,List.drop_append_of_le_length acK];simp
   | succ i =>
     have ih':=ih hr (by simpa using hi);simp only[flat] at ih';simp only[List.set_cons_succ,flat,abt,ih',rH];have e1:(i+1)*k+off=x.cells.length+(i*k+off):=by rw[hx,acg];omega
     have e2:(i+1)*k+off+m.length=x.cells.length+(i*k+off+m.length):=acK;rw[e2,e1,List.take_length_add_append,List.drop_length_add_append];simp only[aaY]
section
variable {P:Program} {w0:Fr}{M0:Nat→Prop}
variable {o:Oper} {ρ:Operand→Option SV}{ob:List (Nat×Ob)}{d:SV}{x y:Operand}{T T' e:TypeId}{k b:Nat}{c:fW}{id off:Nat}{cs:List SV}{s:St}{t:Nat}{xs:List AV}
theorem lG {v:Value}{g p:Nat}{cur:Array Value}(hk:bY P T=some k)(hv:v.cells.size=k)(hg:w.heap[g]?=some (.cells cur e (0,0)))(hl:p+k≤cur.size)(h1:∀u∈v.cells.toList,u.oneCell'=true) :
  (storeVar T ⟨g,p,none⟩ v).run P w=.ok () (w.setRow g (rH cur.toList p v.cells.toList).toArray):=by
 have:=run_storeCells_at P g p e v.cells.toList 0 cur w hg (by simp;omega) h1;simp only[Nat.add_zero] at this;simp[storeVar,dt hk,hv,this,rH]
theorem jS {g:Nat}{cs:Array Value}:w.grownBy (w.setRow g cs) (some g):=⟨rfl,rfl,rfl,by simp[World.setRow],fun k _ hk=>setRow_other w g k _ (fun he=>hk (by rw[he]))⟩
theorem aW (ho:o.op=.store T x y)(hd:o.dst=none)(hnd:Nodup s.s=true)(hk:bY P T=some k)(hx:s.ev x=some (.pbox id off))(hl:s.o.lookup id=some (.box e cs))(hy:s.ev y=some (.v c a0))(hnt:jm a0=true)(hc:c≠.vw)
   (hn:(c3 (.v c a0)).length=k)(hle:Nat.ble (off+k) cs.length=true)(aa:∀b,M0 b→b<w0.w.heap.size):Step P w0 M0 o s (s.cC false id (.box e (rH (c5 id cs) off (c3 (.v c a0))))):=by
 rintro a w Q ⟨E,hs⟩;have hle':=aah hle;have hxv:=hs.ev hx e cs hl;obtain⟨g1,g2⟩:=vr (hs.ev hy) (by simp) (by cases a0<;>simp_all [SV.SP,jm]) (.inl ⟨c,a0,rfl⟩);obtain⟨vals,h1,h2,h3,h4⟩:=hs.wok.objs id _ hl;have hvs:(a.eval y).cells.size=k:=by rw[g1,hn]
 have hone:∀u∈(a.eval y).cells.toList,u.oneCell'=true:=by
   intro u hu;obtain⟨j,hj,rfl⟩:=abd hu;have hj':j<(c3 (.v c a0)).length:=by rw[←g1];simpa using hj
   have:=(g2 j _ (aal hj')).2.1;rw[aaL] at this;simp only[ab5] at hj;simpa[hj] using this
 have hrun:=lG (P:=P) (w:=w) (p:=off) hk hvs h1 (by simp;omega) hone;unfold Oper.wp;have hexec:(execOp a.eval o).run P w=.ok .skip (w.setRow (E.blk id) (rH vals off (a.eval y).cells.toList).toArray):=by
   simp[execOp,ho,hxv,Instr.storeAt,Instr.sureAddr,hrun]
 rw[hexec];simp only[Oper.upon,hd,Act.put];have hbl:(a.eval y).cells.toList.length=k:=by simp[hvs]
 have hspl:off+(a.eval y).cells.toList.length≤vals.length:=acK;refine⟨E,hs.cC false (fun _=>⟨rfl,.inr (.inl ⟨e,cs,_,hl,rfl⟩)⟩) hnd aa (fun i hi=>⟨rfl,rfl⟩) (.inr J) (some (E.blk id)) jS (fun _=>aak _) (fun g hg=>⟨_,hl,by simpa[bE] using hg⟩) (fun b hb=>.inl ⟨_,hl,hb⟩) (fun rep sv=>?_)⟩;refine⟨_,setRow_heap w _ _ _ e _ h1,h2,?_,fun j d hj=>?_⟩
 · rw[dz hspl,dz (by simp[c5,hn];omega)];simp[c5,h3]
 · rw [fA (by simp [c5, hn]; omega)] at hj
   rw[aag,fA hspl,hbl];rw[hn] at hj;split at hj
   · rename_i hin
     rw[if_pos hin];obtain⟨q1,q2,q3⟩:=g2 _ d hj;have e1:(a.eval y).cells.toList[j-off]?.getD undef=(a.eval y).cells.getD (j-off) undef:=by rw[aaL,aaS]
     rw[e1];refine⟨q1,q2,sv _ _ q3 ?_⟩;have:∃d',d=.v c d':=by
       cases a0<;>simp only[c3] at hj
       case agg cs=>rw[aap,aao] at hj;obtain⟨u,_,rfl⟩:=hj;exact⟨u,rfl⟩
       all_goals (cases hjj:j-off<;>rw[hjj] at hj<;>simp at hj;subst hj;exact⟨_,rfl⟩)
     obtain⟨d',rfl⟩:=this;cases c<;>first|rfl|exact absurd rfl hc
   · rename_i hin
     rw[if_neg hin];simp only[c5,aap,aao] at hj;obtain⟨d0,hd0,rfl⟩:=hj;have:=h4 j d0 hd0;rw[aag] at this;split
     · exact⟨this.1,this.2.1,sv _ _ this.2.2 ‹_›⟩
     · exact⟨rfl,this.2.1,trivial⟩
theorem aV {j:Nat}{e':TypeId}(ho:o.op=.store T x y)(hd:o.dst=none)(hnd:Nodup s.s=true)(hk:bY P T=some 1)(hx:s.ev x=some (.pbox id off))(hl:s.o.lookup id=some (.box e cs))(hy:s.ev y=some (.own j))(hj:s.o.lookup j=some (.arr e' xs))
  (hle:Nat.ble (off+1) cs.length=true)(aa:∀b,M0 b→b<w0.w.heap.size):Step P w0 M0 o s (s.cC false id (.box e (rH (c5 id cs) off [.own j]))):=by
 rintro a w Q ⟨E,hs⟩;have hle':=aah hle;have hxv:=hs.ev hx e cs hl;have hyv:a.eval y=E.cur j:=hs.ev hy e' xs hj;obtain⟨vals',⟨hown,_⟩,_⟩:=hs.wok.objs j _ hj;have hsl:∃A n c',a.eval y=.slice A n c':=by
  rw[hyv];rcases hown.2 with⟨h,_⟩|⟨g,cap,cur,h,_⟩<;>exact⟨_,_,_,h⟩
 obtain⟨A,n,c',hsl⟩:=hsl;obtain⟨vals,h1,h2,h3,h4⟩:=hs.wok.objs id _ hl;have hrun:=lG (P:=P) (w:=w) (v:=.slice A n c') (p:=off) hk rfl h1 (by simp;omega) (by simp[Value.cells,Value.oneCell']);unfold Oper.wp;have hexec:(execOp a.eval o).run P w=.ok .skip (w.setRow (E.blk id) (rH vals off [.slice A n c']).toArray):=by
  simp[execOp,ho,hxv,hsl,Instr.storeAt,Instr.sureAddr,hrun,Value.cells]
 rw[hexec];simp only[Oper.upon,hd,Act.put];have hspl:off+[Value.slice A n c'].length≤vals.length:=by simp;omega
 refine⟨E,hs.cC false (fun _=>⟨rfl,.inr (.inl ⟨e,cs,_,hl,rfl⟩)⟩) hnd aa (fun i hi=>⟨rfl,rfl⟩) (.inr J) (some (E.blk id)) jS (fun _=>aak _) (fun g hg=>⟨_,hl,by simpa[bE] using hg⟩) (fun b hb=>.inl ⟨_,hl,hb⟩) (fun rep sv=>?_)⟩;refine⟨_,setRow_heap w _ _ _ e _ h1,h2,?_,fun j' d hj'=>?_⟩
 ·rw[dz hspl,dz (by simp[c5];omega)];simp[c5,h3]
 ·rw[fA (by simp[c5];omega)] at hj';rw[aag,fA hspl];simp only[aaZ] at hj' ⊢;split at hj'
  ·rename_i hin;rw[if_pos hin];have hz:j'-off=0:=acK;rw[hz] at hj' ⊢;simp only[aaN,aaj] at hj';subst hj';simp only[aaN,ace];refine⟨rfl,rfl,sv _ _ ?_ J⟩;rw[←hsl];exact hs.ev hy
  ·rename_i hin;rw[if_neg hin];simp only[c5,aap,aao] at hj';obtain⟨d0,hd0,rfl⟩:=hj';have:=h4 j' d0 hd0;rw[aag] at this;split
   ·exact⟨this.1,this.2.1,sv _ _ this.2.2 ‹_›⟩
   ·exact⟨rfl,this.2.1,trivial⟩
theorem aE {q:IntKind}{i:Int}(ho:o.op=.indexAddr T x y)(hT:P.underlying T=some (.slice e))(hk:bY P e=some k)(hx:ρ x=some (.own id))(hl:ob.lookup id=some (.arr e xs))(hy:aZ ρ y=some (.int q i))(h:0≤i∧i<xs.length) :
   Pure P w0 M0 o ρ ob (.pel id i.toNat 0) :=
 aD fun E w ev hw hh=>by
   have hr:=hh x _ hx e xs hl;have hi:=bK hh hy;obtain⟨vals,⟨hown,hownF⟩,h2,h3⟩:=hw.objs id _ hl;rcases hown.2 with⟨hv,hn⟩|⟨g,cap,cur,hv,_⟩
   · omega
   · rw [hv] at hr
     have hel:P.elem T=e:=by simp[Program.elem,hT]
     refine⟨.pointer (some ⟨g,i.toNat*P.cellsOf e+0,none⟩),w,?_,.refl _ _,fun e' xs' h'=>?_⟩
     · have hin : 0 ≤ i ∧ i < (xs.length : Int) := h
       simp[execOp,ho,hr,hi,run_indexAt_slice,hel,hT,hin,dt hk,cL hk,Addr.add_lit]
     · rw [hl] at h'
       simp only[aaj,Ob.arr.injEq] at h';obtain⟨rfl,rfl⟩:=h';exact⟨acK,g,by rw[hv];rfl,rfl⟩
theorem fh (ho:o.op=.load T x)(hT:bo P T=some false)(hx:ρ x=some (.pel id i off))(hl:ob.lookup id=some (.arr e xs))(he:xs[i]?=some el)(hc:el.cells[off]?=some a0):Pure P w0 M0 o ρ ob (.v .pl a0) :=
 aD fun E w ev hw h=>by
  obtain⟨hi,g,hg,hr⟩:=h x _ hx e xs hl;obtain⟨vals,⟨hown,hownF⟩,h2,h3⟩:=hw.objs id _ hl;have hoff:off<P.cellsOf e:=by rw[←h2 el (aaW he)];exact(aaz.1 hc).1
  have hfl:(flat xs)[i*P.cellsOf e+off]?=some a0:=by rw[flat_get xs i el h2 he off hoff];exact hc
  have hvl:i*P.cellsOf e+off<vals.length:=by
   rw[hown.1,←bO xs h2];exact(aaz.1 hfl).1
  have hcell:=hown.cells hg (i*P.cellsOf e+off) _ (aal hvl);rw[Addr.add_lit,abg] at hcell;refine⟨vals.getD (i*P.cellsOf e+off) undef,w,?_,.refl _ _,(h3 _ a0 hfl).2⟩;simp[execOp,ho,hr,Instr.loadAt,Instr.sureAddr,loadVar,dj hT,hcell,aag,aal hvl]
theorem sX (ho:o.op=.load T x)(hT:bo P T=some true)(hk:bY P T=some k)(hx:ρ x=some (.pel id i 0))(hl:ob.lookup id=some (.arr e xs))(hck:bY P e=some k)(he:xs[i]?=some el):Pure P w0 M0 o ρ ob (.v .pl (.agg el.cells)) :=
 aD fun E w ev hw h=>by
  obtain⟨hi,g,hg,hr⟩:=h x _ hx e xs hl;obtain⟨vals,⟨hown,hownF⟩,h2,h3⟩:=hw.objs id _ hl;have hce:=cL hck;rw[hce] at hr hown h2;have hel:=h2 el (aaW he);have hvl:vals.length=xs.length*k:=hown.1;have hmul:i*k+k≤xs.length*k:=by rw[←acw];exact abl _ acK
  have hcell:=run_loadCells (P:=P) w ⟨g,i*k,none⟩ k (fun j=>vals.getD (i*k+j) undef) (fun j hj=>by
   have hj':i*k+j<vals.length:=acK;have:=hown.cells hg (i*k+j) _ (aal hj');rw[Addr.add_lit,abg] at this;rw[Addr.add_lit,this,aag,aal hj'];rfl)
  refine⟨.agg ((List.range k).map fun j=>vals.getD (i*k+j) undef).toArray,w,?_,.refl _ _,.agg _ _ (by simp[hel]) (fun j d hd=>?_) (fun j d hd=>?_)⟩
  ·simp only[execOp,ho,hr,Instr.loadAt,Instr.sureAddr,loadVar,Sem.run_bind,dj hT,dt hk,Result.andThen_ok,Sem.run_pure,if_true,Nat.add_zero,hcell]
  ·have hj:j<k:=by rw[←hel];exact(aaz.1 hd).1
   exact(h3 (i*k+j) d (by rw[flat_get xs i el h2 he j hj];exact hd)).1
  ·have hj:j<k:=by rw[←hel];exact(aaz.1 hd).1
   have:=(h3 (i*k+j) d (by rw[flat_get xs i el h2 he j hj];exact hd)).2;rw[aag,aap,abr hj];exact this
theorem ay   (ho:o.op=.store T x y) (hd:o.dst=none) (hnd:Nodup s.s=true) (hk:bY P T=some k) (hx:s.ev x=some (.pel id i off)) (hl:s.o.lookup id=some (.arr e xs)) (he:xs[i]?=some el) (hy:viewAt s.ev s.o y=some (c,a0)) (hnt:jm a0=true) (hc:c=.pl∨∃ v,a0=.sc v)
   (hn:a0.cells.length=k)(hle:off+k≤el.cells.length)(aa:∀b,M0 b→b<w0.w.heap.size):Step P w0 M0 o s (s.cC false id (.arr e (xs.set i (BK el (rH el.cells off a0.cells))))):=by
 rintro a w Q ⟨E,hs⟩;obtain⟨hi,g,hg,hxv⟩:=hs.ev hx e xs hl;have hyr:=cz hs.wok (fun x e hx=>hs.ev hx) hy;have hyp:bJ w (cB M0 (owned E s.o) .pl) (a.eval y) a0:=by
   rcases hc with rfl|⟨v,rfl⟩
   · exact hyr
   · generalize a.eval y = u at hyr ⊢
     cases hyr;exact .sc _ ‹_›
 obtain⟨g1,g2,g3⟩:=hyp.cells (fun vs hh=>by subst hh;cases hnt);obtain⟨vals,⟨hown,hownF⟩,h2,h3⟩:=hs.wok.objs id _ hl;have helk:=h2 el (aaW he);have hvs:(a.eval y).cells.size=k:=by rw[g1,hn]
 have hone:∀u∈(a.eval y).cells.toList,u.oneCell'=true:=by
   intro u hu;obtain⟨j,hj,rfl⟩:=abd hu;have hj':j<a0.cells.length:=by rw[←g1];simpa using hj
   have q1:=g2 j _ (aal hj');have:=(g3 j _ (aal hj')).one q1;rw[aaL] at this;simp only[ab5] at hj;simpa[hj] using this
 obtain⟨hvl,hform⟩:=hown;have hpos:i*P.cellsOf e+off+k≤vals.length:=by
   have:i*P.cellsOf e+P.cellsOf e≤xs.length*P.cellsOf e:=by rw[←acw];exact abl _ acK
   omega
 rcases hform with⟨hv,hn0⟩|⟨g',cap,cur,hv,hgb,hh,hnc,hcm,hcs,htake⟩
 · omega
 · have hgg : g' = g := by rw [hv] at hg; simpa [Value.ownBlock] using hg
   subst hgg;have hvals:vals.length≤cur.size:=by rw[hvl,hcs];exact abl _ hnc
   have hrun:=lG (P:=P) (w:=w) (p:=i*P.cellsOf e+off) hk hvs hh acK hone;unfold Oper.wp;have hexec:(execOp a.eval o).run P w=.ok .skip (w.setRow g' (rH cur.toList (i*P.cellsOf e+off) (a.eval y).cells.toList).toArray):=by
     simp[execOp,ho,hxv,Instr.storeAt,Instr.sureAddr,hrun]
   rw[hexec];simp only[Oper.upon,hd,Act.put];have hbl:(a.eval y).cells.toList.length=k:=by simp[hvs]
   have hleaf:∀d∈rH el.cells off a0.cells,AV.leaf d=true:=by
     intro d hd;obtain⟨j,hj,rfl⟩:=abd hd;have hj2:=fA (l:=el.cells) (m:=a0.cells) (off:=off) acK j;rw[aal hj] at hj2;split at hj2
     · exact g2 _ _ hj2.symm
     · have hjl : j < P.cellsOf e := by rw [← helk]; rw [dz acK] at hj; exact hj
       exact(h3 (i*P.cellsOf e+j) _ (by rw[flat_get xs i el h2 he j hjl];exact hj2.symm)).1
   have hre:=BL (el:=el) (cs:=rH el.cells off a0.cells) (by rw[dz acK]) hleaf;have hfs:=LH (off:=off) (m:=a0.cells) h2 he acK hre;have hspl:i*P.cellsOf e+off+(a.eval y).cells.toList.length≤vals.length:=acK;refine⟨E,hs.cC false (fun _=>⟨rfl,.inl ⟨e,xs,_,hl,rfl,by simp⟩⟩) hnd aa (fun i hi=>⟨rfl,rfl⟩) (.inr J) (some g') jS (fun _=>aak _) (fun g hg'=>⟨_,hl,by simp only[aaj] at hg';subst hg';exact hg⟩) (fun b hb=>.inl ⟨_,hl,hb⟩) (fun rep sv=>?_)⟩;refine⟨rH vals (i*P.cellsOf e+off) (a.eval y).cells.toList,?_,?_,fun j d hj=>?_⟩
   · refine ⟨⟨by rw [dz hspl, hvl, ab3], .inr ⟨g', cap, _, by rw [hv, ab3], hgb, setRow_heap w _ _ _ e _ hh, by rw [ab3]; exact hnc, hcm, ?_, ?_⟩⟩, hownF⟩
     · rw[acI,dz (by simp;omega)];simpa using hcs
     · rw [ab3, ← hvl]
       have ht:cur.toList.take vals.length=vals:=by rw[hvl];exact htake
       apply abe;intro j;rw[aa1,fA (by simp;omega),fA hspl];by_cases hj:j<vals.length
       · rw [if_pos hj]
         split
         · rfl
         · have : (cur.toList.take vals.length)[j]? = cur.toList[j]? := by rw [aa1, if_pos hj]
           rw[←this,ht]
       · rw[if_neg hj,if_neg acK,aaR acK]
   · intro u hu
     rcases List.mem_or_eq_of_mem_set hu with h|h
     · exact h2 u h
     · subst h;rw[hre,dz acK,helk]
   · rw [hfs, fA (by rw [bO xs h2, ← hvl]; omega)] at hj
     rw[aag,fA hspl,hbl];rw[hn] at hj;split at hj
     · rename_i hin
       rw[if_pos hin];have e1:(a.eval y).cells.toList[j-(i*P.cellsOf e+off)]?.getD undef=(a.eval y).cells.getD (j-(i*P.cellsOf e+off)) undef:=by rw[aaL,aaS]
       rw[e1];exact⟨g2 _ d hj,rep .pl _ _ (g3 _ d hj) (by simp)⟩
     · rename_i hin
       rw[if_neg hin];have:=h3 j d hj;rw[aag] at this;exact⟨this.1,rep .pl _ _ this.2 (by simp)⟩
end
abbrev ah (l:List UInt8):AV:=.sc (.string ⟨l.toArray⟩)
variable{q:Bool}{ds:List AV}
section
variable {P:Program} {w0:Fr}{M0:Nat→Prop}
variable {o:Oper} {ρ:Operand→Option SV}{ob:List (Nat×Ob)}{d:SV}{x y z:Operand}{T T' e:TypeId}{k b:Nat}{c:fW}{id off:Nat}{s:St}{t:Nat}{xs:List AV}{l l':List UInt8}
theorem jT (ho:o.op=.unOp .not T x)(hx:aZ ρ x=some (.bool q)):Pure P w0 M0 o ρ ob (.v .pl (.sc (.bool (!q)))) :=
 nA rfl fun w ev h=>by simp[execOp,ho,h x _ hx,Op.unary]
theorem LI {n:Int}(ho:o.op=.unOp .neg T x)(hx:aZ ρ x=some (.int .i64 n))(h:-9223372036854775808≤-n∧-n≤9223372036854775807):Pure P w0 M0 o ρ ob (.v .pl (int (-n))) :=
 nA rfl fun w ev h'=>by
  have hw:=wrap64 (x:=0-n) acK acK;simp[execOp,ho,h' x _ hx,Op.unary,Op.intArith];simpa using hw
theorem nC {k k':IntKind}{n:Int}{ds:TypeDesc}(ho:o.op=.convert T T' x)(hs:P.underlying T=some ds)(hd:P.underlying T'=some (.int k'))(hx:aZ ρ x=some (.int k n)):Pure P w0 M0 o ρ ob (.v .pl (.sc (.int k' (k'.wrap n)))) :=
 nA rfl fun w ev h'=>by
  have:P.intKind T'=k':=by simp[Program.intKind,hd]
  have hr:=run_convert_int (P:=P) (w:=w) T T' k n (by rw[hs];rfl) (by rw[this];exact hd);rw[this] at hr;simp[execOp,ho,h' x _ hx,hr]
theorem LJ {p:Bool}(hT:P.underlying T=some .bool)(ho:o.op=.binOp .eql T x y T')(hx:aZ ρ x=some (.bool p))(hy:aZ ρ y=some (.bool q)):Pure P w0 M0 o ρ ob (.v .pl (.sc (.bool (p == q)))) :=
 dG ho hx hy rfl (by simp[go_sem]) (fun w=>run_eql_bool (P:=P) (w:=w) T p q hT)
theorem sY {p:Bool}(hT:P.underlying T=some .bool)(ho:o.op=.binOp .neq T x y T')(hx:aZ ρ x=some (.bool p))(hy:aZ ρ y=some (.bool q)):Pure P w0 M0 o ρ ob (.v .pl (.sc (.bool (!(p == q))))) :=
 dG ho hx hy rfl (by simp[go_sem]) (fun w=>by have:=run_neq_bool (P:=P) (w:=w) T p q hT;simpa[bne] using this)
theorem Jo (ho:o.op=.binOp .eql T x y T')(hx:aZ ρ x=some (.string ⟨l.toArray⟩))(hy:aZ ρ y=some (.string ⟨l'.toArray⟩)):Pure P w0 M0 o ρ ob (.v .pl (.sc (.bool (decide (l=l'))))) :=
 dG ho hx hy rfl (by simp[go_sem]) (fun w=>by
  simp only[binOp,Op.stringOp,ByteArray.toList_eq,Sem.run_pure]
  congr 2;rw[abU];simp)
theorem ui (ho:o.op=.binOp .neq T x y T')(hx:aZ ρ x=some (.string ⟨l.toArray⟩))(hy:aZ ρ y=some (.string ⟨l'.toArray⟩)):Pure P w0 M0 o ρ ob (.v .pl (.sc (.bool (!decide (l=l'))))) :=
 dG ho hx hy rfl (by simp[go_sem]) (fun w=>by
  simp only[binOp,Op.stringOp,ByteArray.toList_eq,Sem.run_pure]
  congr 3;rw[abU];simp)
theorem Jp (l l':List UInt8):(⟨l.toArray⟩:ByteArray)++⟨l'.toArray⟩=⟨(l++l').toArray⟩:=by
 have h:=Go.Joins.data_append ⟨l.toArray⟩ ⟨l'.toArray⟩;generalize (⟨l.toArray⟩:ByteArray)++⟨l'.toArray⟩=q at h;obtain⟨q⟩:=q
 congr 1
 apply ab1;simpa using h
theorem jB (ho:o.op=.binOp .add T x y T')(hx:aZ ρ x=some (.string ⟨l.toArray⟩))(hy:aZ ρ y=some (.string ⟨l'.toArray⟩))(hb:l.length+l'.length≤9223372036854775807):Pure P w0 M0 o ρ ob (.v .pl (ah (l++l'))) :=
 dG ho hx hy rfl (by simp[go_sem]) (fun w=>by
  rw[←Jp];have h:=run_string_add_sum (P:=P) (w:=w) ⟨l.toArray⟩ ⟨l'.toArray⟩ (by simpa[ByteArray.size] using hb);simpa[binOp] using h)
theorem bJ.part {M:Nat→Prop}{a:Option Addr}{cap:Nat}{j:Nat}(hr:bJ w M (.slice a n cap) (.sl xs))(hk:bY P e=some k)(hxk:∀v∈xs,(AV.cells v).length=k)(hij:i≤j)(hj:j≤n) :
   bJ w M (sliced a i j cap k) (.sl ((xs.drop i).take (j-i))):=by
 cases hr with
 | sl a n cap xs k' cv hn hc hk' hb hl hr =>
   have hflat:∀(q:Nat) d,(flat ((xs.drop i).take (j-i)))[q]?=some d→(flat xs)[i*k'+q]?=some d:=by
     intro q d hd;have e1:xs=xs.take i++((xs.drop i).take (j-i)++(xs.drop i).drop (j-i)):=by rw[abn,abn]
     have hlen:(flat (xs.take i)).length=i*k':=by
       rw[bO (xs.take i) (fun v hv=>hk' v (abv hv)),aau,acq acK]
     rw[e1,gg,gg,aaE acK,hlen,Nat.add_sub_cancel_left,aaH (aaz.1 hd).1];exact hd
   unfold sliced;refine .sl _ _ _ _ k' (fun q=>cv (i*k'+q)) (by simp;omega) acK (fun v hv=>hk' v (aa0 (abv hv))) (fun h0=>?_) (fun q d hd=>hl _ d (hflat q d hd)) (fun q d hd=>hr _ d (hflat q d hd));have h0':0<j-i:=h0;have hn0:0<n:=acK;have hkk:k=k':=by
     cases xs with
     | nil =>
       have:n=0:=by simpa using hn.symm
       omega
     | cons v r=>rw[←hk' v aaq,hxk v aaq]
   subst hkk;obtain⟨bl,of,rfl,h1,h2,h3⟩:=hb hn0;refine⟨bl,of+i*k,?_,h1,h2,fun q hq=>?_⟩
   · have hne : ¬ cap = i := by
       have hji:0<j-i:=h0;omega
     rw[if_neg hne];simp[Addr.add_lit]
   · have hle : i * k + (j - i) * k ≤ n * k := by rw [← acg]; exact abl _ acK
     have hlt:i*k+q<n*k:=acK;have:=h3 (i*k+q) hlt;have e1:of+i*k+q=of+(i*k+q):=acK;rw[e1];exact this
theorem sZ {q':IntKind}{j:Int}(ho:o.op=.slice T x none (some z) none)(hT:P.underlying T=some (.slice e))(hk:bY P e=some k)(hx:viewAt ρ ob x=some (c,.sl xs))(hz:aZ ρ z=some (.int q' j))(h:0≤j∧j≤xs.length)(hxk:∀v∈xs,(AV.cells v).length=k) :
  Pure P w0 M0 o ρ ob (.v c (.sl (xs.take j.toNat))) :=
 aD fun E w ev hw hh=>by
  have hr:=cz hw hh hx;have hz':=bK hh hz;generalize hq:ev x=u at hr;have hu:∃a n cap,u=.slice a n cap∧xs.length=n∧n≤cap:=by
   cases hr with
   | sl a n cap _ k cv hn hc _ _ _ _=>exact⟨a,n,cap,rfl,hn,hc⟩
  obtain⟨a,n,cap,rfl,hn,hc⟩:=hu;have hel:P.elem T=e:=by simp[Program.elem,hT]
  have hrun:(Instr.slice T (.slice a n cap) none (some (.int q' j)) none).run P w=.ok (sliced a 0 j.toNat cap k) w:=by
   have hj:0≤j∧j≤(cap:Int):=acK;simp[Instr.slice,run_underlying hT,Instr.sliceBounds,run_sliceBound,hj,dt hk,sliced]
  have:=hr.part hk hxk (aan j.toNat) acK;simp only[List.drop_zero,ab7] at this;refine⟨_,w,?_,.refl _ _,this⟩;simp only[execOp,ho,hq,hz',aa3,Option.map_none,Sem.run_bind,run_sliceAt_slice (P:=P) (w:=w) T _ _ _ _ (by rw[hel];exact hT),hrun,Result.andThen_ok,Sem.run_pure]
def iV (ρ:Operand→Option SV)(ob:List (Nat×Ob)):List Operand→Option (fW×List AV)
 | []=>some (.pl,[])
 | x :: r => match viewAt ρ ob x, iV ρ ob r with
   | some (c,d),some (c',ds)=>some (c.max c',d :: ds)
   | _,_=>none
theorem mP {E:Env}{w:World}{ev:Operand→Value}(hw:gr P w0 M0 E ob w)(h:∀x e,ρ x=some e→bm P M0 w E ob (ev x) e):∀(xs:List Operand)(c:fW)(ds:List AV),iV ρ ob xs=some (c,ds) →
   xs.length=ds.length∧∀(j:Nat) d,ds[j]?=some d→bJ w (cB M0 (owned E ob) c) ((xs.map ev).getD j undef) d
 | [], c, ds, hd => by
   simp only[iV,aaj,abk] at hd;obtain⟨rfl,rfl⟩:=hd;exact⟨rfl,fun j d hd=>by simp at hd⟩
 | x :: r, c, ds, hd => by
   unfold iV at hd;split at hd
   · rename_i c1 d1 c2 ds2 h1 h2
     simp only[aaj,abk] at hd;obtain⟨rfl,rfl⟩:=hd;have ih:=mP hw h r c2 ds2 h2;refine⟨by simp[ih.1],fun j d hd=>?_⟩;cases j with
     | zero =>
       simp only[aaN,aaj] at hd;subst hd;exact(cz hw h h1).cd (qL c1 c2)
     | succ j=>exact(ih.2 j d (by simpa using hd)).cd (qM c1 c2)
   · cases hd
theorem Jq {f:FuncId}{caps:Array Operand}(ho:o.op=.makeFunc (.func f) #[] caps)(hc:iV ρ ob caps.toList=some (c,ds)):Pure P w0 M0 o ρ ob (.v c (.clo f ds)) :=
 aD fun E w ev hw h=>by
  obtain⟨g1,g2⟩:=mP hw h _ c ds hc;refine⟨.func (.func f) #[] (caps.toList.map ev).toArray,w,?_,.refl _ _,.clo f _ _ (by simpa using g1) g2⟩;simp[execOp,ho,Instr.makeFunc]
  try (apply ab1;simp)
theorem Dx {azs:List AV}(ho:o.op=.field T x f)(hT:pv P T f=some (fo,fk+1,false))(hx:viewAt ρ ob x=some (c,.agg azs))(ha:azs[fo]?=some a0):Pure P w0 M0 o ρ ob (.v c a0) :=
 aD fun E w ev hw h=>by
   have hr:=cz hw h hx;generalize hq:ev x=u at hr;cases hr with
   | agg vs _ hn hl hr =>
     have hlt:fo<vs.length:=by rw[hn];exact(aaz.1 ha).1
     have:=hr fo a0 ha;rw[aag,aal hlt] at this;refine⟨vs[fo],w,?_,.refl _ _,this⟩;unfold pv at hT;split at hT
     · rename_i fs hs
       cases hf:fs[f]? with
       | none=>rw[hf] at hT;cases hT
       | some fd =>
         rw[hf] at hT;simp only[abO,abc,aao,abk] at hT;obtain⟨k1,hk1,g1,hg1,UB,Xt,hT3⟩:=hT;subst UB;subst hT3;simp[execOp,ho,hq,Instr.field,run_underlying hs,hf,part,dj hg1,asAgg,hlt]
     · cases hT
theorem qN {u:Value}{n:Int}{q q':IntKind}(ho:o.op=.makeSlice T x y)(hd:o.dst=some t)(hn:Nat.blt t s.n=true)(hnd:Nodup s.s=true)(hT:P.underlying T=some (.slice e))(hel:iK P e 1 b=true)(hz:zeroOf P e=some [u])(hu:u.oneCell'=true)
  (hx:aZ s.ev x=some (.int q n))(hy:aZ s.ev y=some (.int q' n))(h0:0≤n)(hb:b*n.toNat≤281474976710656)(hm:n≤4611686018427387904)(aa:∀b,M0 b→b<w0.w.heap.size):Step P w0 M0 o s ((s.cC true t (.arr e (List.replicate n.toNat (.sc u)))).put t (.own t)):=by
 rintro a w Q ⟨E,hs⟩;obtain⟨i,zz,hi,hzz,hsz,hby,hzs,hk0,hck⟩:=gJ hel;have hzc:zz.cells.toList=[u]:=by
  unfold zeroOf at hz;rw[hi] at hz;simp only[abO,hzz,aa3,aaj] at hz;exact hz
 have hx':a.eval x=.int q n:=bK (ρ:=s.ev) (x:=x) (ob:=s.o) (ev:=a.eval) (fun x e hx=>hs.ev hx) hx;have hy':a.eval y=.int q' n:=bK (ρ:=s.ev) (x:=y) (ob:=s.o) (ev:=a.eval) (fun x e hx=>hs.ev hx) hy;obtain⟨w',hrun,hown,hg⟩:=run_make_full (P:=P) w 0 T e i zz 1 hT hi hzz hsz q q' n.toNat (by rw[hby];exact hb) (by simp only[maxLen];omega) (aan _);rw[Int.toNat_of_nonneg h0] at hrun;have hcells:(madeCells zz.cells (n.toNat*1)).toList=List.replicate n.toNat u:=by
  have hzc':zz.cells=#[u]:=by rw[←Array.toList_inj];simpa using hzc
  rw[hzc',abJ];apply abe;intro j;simp only[madeCells,acu,aap,abQ];rcases aaK j n.toNat with h|h
  ·have hone:j % 1=0:=Nat.mod_one j;simp[h,Nat.mod_one]
  ·rw[if_neg acK];simp;omega
 rw[hcells] at hown;unfold Oper.wp;have hexec:(execOp a.eval o).run P w=.ok (.value (.slice (some ⟨w.heap.size,0,none⟩) n.toNat n.toNat)) w':=by
  simp only[execOp,ho,hx',hy',Sem.run_bind,hrun,Result.andThen_ok,Sem.run_pure]
 rw[hexec];simp only[Oper.upon,hd];refine⟨{ E with cur:=fun i=>if i=t then .slice (some ⟨w.heap.size,0,none⟩) n.toNat n.toNat else E.cur i },ba.put ?_ (by simpa[St.cC] using hn) ff⟩;refine hs.ox hnd aa hg (fun _=>lQ _ _ _ _ hrun) (vals:=List.replicate n.toNat u) (by rw[hck,abo];exact hown) (fun b hb=>?_) (fun v hv=>by rw[hck,aci hv];rfl) (fun j d hd=>?_)
 ·simp only[Value.ownBlock,aaj] at hb;omega
 ·have hfl:flat (List.replicate n.toNat (AV.sc u))=List.replicate n.toNat (AV.sc u):=by
   generalize n.toNat=m
   induction m with
   | zero=>rfl
   | succ m ih=>simp only[acy,flat,abt] at ih ⊢;rw[ih];rfl
  rw[hfl,abQ] at hd;split at hd
  ·rename_i hj;simp only[aaj] at hd;subst hd;refine⟨rfl,.inl ?_⟩;rw[aag,abQ,if_pos hj];exact .sc u hu
  ·cases hd
end
theorem iC  [Inhabited α]{f:α→AV}{l:List α}(h:i<l.length):(l.map f)[i]?=some (f (l.getD i default)):=by rw[aap,aag,aal h];rfl
theorem bW {k:Nat}{x:AV}(h:(AV.cells x).length=k):∀y∈[x],(AV.cells y).length=k:=by intro y hy;simp at hy;subst hy;exact h
theorem mQ {f:α→AV}{l:List α}{k:Nat}(h:∀z,(AV.cells (f z)).length=k):∀y∈l.map f,(AV.cells y).length=k:=by intro y hy;obtain⟨z,_,rfl⟩:=aaG.1 hy;exact h z
theorem Jr {f:α→AV}{l:List α}(h:∀z,AV.cells (f z)=[f z]):flat (l.map f)=l.map f:=by
 induction l with
 | nil=>rfl
 | cons x r ih=>simp only[aa6,flat,abt] at ih ⊢;rw[ih,h];rfl
variable{u:Nat}{r r':AV}{a:Int}
section
variable {P:Program} {w0:Fr}{M0:Nat→Prop}
theorem eW {f:α→AV}{l:List α}{s:St}{y:Operand}{k:Nat}(hy:viewAt s.ev s.o y=some (.pl,.sl (l.map f)))(hk:∀z,(AV.cells (f z)).length=k):Src P w0 M0 s y k (l.map f):=cI hy (mQ hk)
theorem s4 {f:α→AV}{l:List α}{s:St}{y:Operand}{c:fW}(hy:viewAt s.ev s.o y=some (c,.sl (l.map f)))(hk:∀z,∃v,f z=.sc v):Src P w0 M0 s y 1 (l.map f) :=
 SN hy (mQ fun z=>by obtain⟨v,h⟩:=hk z;rw[h];rfl) (fun d hd=>by
  rw[Jr (fun z=>by obtain⟨v,h⟩:=hk z;rw[h];rfl)] at hd;obtain⟨z,_,rfl⟩:=aaG.1 hd;exact hk z)
def F7 (P : Program) (f : FuncId) (n t u : Nat) (c : Code) : Prop := ∃ fn, P.funcs[f]? = some fn ∧ fn.body = some c ∧ fn.ntmps = n ∧ fn.results = #[.tmp t, .tmp u] ∧ (fn.name == "runtime.NumGoroutine") = false
theorem F7.bu {t:Nat}{c:Code}(h:F7 P f n t u c):cg P f:=by obtain⟨fn,h1,h2,_,_,h5⟩:=h;exact⟨fn,h1,h5,by rw[h2];rfl⟩
def HR (t u:Nat)(r r':AV):Exit→St→Prop
 | .normal,s|.ret,s=>(∃q,(s.s.lookup t).bind (bR s.o)=some q∧q.data=r)∧(∃q,(s.s.lookup u).bind (bR s.o)=some q∧q.data=r')
 | _,_=>False
theorem pL {t:Nat}{c:Code}(hf:F7 P f n t u c){cl:fW}(aa:∀b,M0 b→b<w.heap.size)(hn:ds.length≤n)(vs:List Value)(hv:vs.length=ds.length)
   (hr:∀(j:Nat) d,ds[j]?=some d→bJ w (cB M0 (fun _=>False) cl) (vs.getD j undef) d)
   (h:ao P (Fr.all w) M0 c (St.enter n cl ds) (HR t u r r')) :
   Calls P f vs.toArray w fun e w'=>∃v,e=.returned v∧Below w.heap.size w w'∧iJ P w' M0 (fun b=>b<w.heap.size) v (.p (.tup [r,r'])):=by
 obtain⟨fn,h1,h2,h3,h4,h5⟩:=hf;have hE:ba P (Fr.all w) M0 ⟨fun _=>undef,fun _=>0,fun _ _=>undef⟩ (St.enter n cl ds) { tmps:=vs.toArray++Array.replicate (fn.ntmps-vs.toArray.size) undef,defers:=[] } w:=by
   rw[eU];refine⟨by simp[St.fG,h3];omega,rfl,fun t d ht=>?_,jP⟩;obtain⟨_,he⟩:=kG _ 0 t d ht;rw[ab7,aap,aao] at he;obtain⟨e,he,rfl⟩:=he;have hlt:t<ds.length:=(aaz.1 he).1;refine⟨by simp[St.fG];omega,?_⟩;have:=hr t e he;simp only[bm,St.fG,ei];have hget:(vs.toArray++Array.replicate (fn.ntmps-vs.toArray.size) undef).getD t undef=vs.getD t undef:=by
     rw[aaL,abS (by simp;omega),aag];simp
   rw[hget];exact this
 refine calls_of_wp h1 h2 (wp_mono (show Code.wp P c _ _ _ from h _ _ ⟨_,hE⟩) fun e a' w' ⟨s',hq,E,hs⟩=>?_);have fin:((∃q,(s'.s.lookup t).bind (bR s'.o)=some q∧q.data=r)∧(∃q,(s'.s.lookup u).bind (bR s'.o)=some q∧q.data=r'))→a'.defers=[]∧∃v,(results fn a'.tmps).run P w'=.ok v w'∧∃v_1,Ending.returned v=Ending.returned v_1∧Below w.heap.size w w'∧iJ P w' M0 (fun b=>b<w.heap.size) v_1 (.p (.tup [r,r'])):=by
   rintro⟨⟨q1,hq1,hd1⟩,⟨q2,hq2,hd2⟩⟩;have one:∀x q,(s'.s.lookup x).bind (bR s'.o)=some q→bJ w' M0 (a'.tmps.getD x undef) q.data:=by
     intro x q hx;cases hl:s'.s.lookup x with
     | none=>rw[hl] at hx;cases hx
     | some sv =>
       rw[hl] at hx;exact(dY hs.wok (hs.slots x sv hl).2 hx).rep aa
   refine⟨hs.defers,.tuple #[a'.tmps.getD t undef,a'.tmps.getD u undef],by simp[results,h4],_,rfl,hs.wok.below.below,?_⟩;have r1:=one t q1 hq1;have r2:=one u q2 hq2;rw[hd1] at r1;rw[hd2] at r2;exact .tup [a'.tmps.getD t undef,a'.tmps.getD u undef] [r,r'] J (fun j d hd=>by
     match j,hd with
     | 0,hd=>simp at hd;subst hd;exact r1
     | 1,hd=>simp at hd;subst hd;exact r2
     | j+2,hd=>simp at hd)
 cases e with
 | normal=>exact fin hq
 | ret=>exact fin hq
 | exit _=>exact hq.elim
 | goto _=>exact hq.elim
 | panic _=>exact hq.elim
 | outgrown=>exact hq.elim
theorem pM {t:Nat}{c:Code}(hf:F7 P f n t u c)(hn:ds.length≤n)
  (h:∀(w0:Fr)(M0:Nat→Prop),(∀b,M0 b→b<w0.w.heap.size)→ao P w0 M0 c (St.enter n .mx ds) (HR t u r r')):ak P f ds (.p (.tup [r,r'])) :=
 ⟨hf.bu,fun w vs hv hr=>pL (cl:=.mx) hf (fun b hb=>hb) hn vs hv (fun j d hd=>hr j d hd) (h (Fr.all w) (fun b=>b<w.heap.size) (fun b hb=>hb))⟩
theorem cu {t:Nat}{s:St}{q q':RV}(h:(s.s.lookup t).bind (bR s.o)=some q)(h':(s.s.lookup u).bind (bR s.o)=some q')(e:q.data=r∧q'.data=r'):HR t u r r' .ret s:=⟨⟨q,h,e.1⟩,⟨q',h',e.2⟩⟩
theorem ak.weaken {f:FuncId}{e:TypeId}{xs:List AV}(h:ak P f ds (.fresh e xs)):ak P f ds (.p (.sl xs)) :=
 ⟨h.1,fun w vs hv hr=>(h.2 w vs hv hr).mono fun e w' ⟨v,he,hb,hrv⟩=>⟨v,he,hb,hrv.rep (fun b hb=>hb)⟩⟩
theorem bC {o:Oper}{ρ:Operand→Option SV}{ob:List (Nat×Ob)}{cx:Operand}{args:Array Operand}{ats:Array TypeId}{c c':fW}{f:FuncId}{caps:List AV}{r:RV}
   (ho:o.op=.call { callee:=.value cx,args:=args,argTypes:=ats })(hc:ρ cx=some (.v c' (.clo f caps)))(ha:iV ρ ob args.toList=some (c,ds))(hcap:caps=[])(h:aU P f ds r)
   (aa:∀b,M0 b→b<w0.w.heap.size):Pure P w0 M0 o ρ ob (.v c r.data):=by
 subst hcap;intro E w ev hw hx;have hcv:=hx cx _ hc;simp only[bm] at hcv;generalize hq:ev cx=q at hcv;cases hcv with
 | clo _ vs _ hn hr =>
   obtain⟨g1,g2⟩:=mP hw hx _ c ds ha;have hvs:vs=[]:=aaD (by simpa using hn);subst hvs;unfold sQ;rw[fE ho hq h.1];refine⟨rfl,?_⟩;have PD:∀b,cB M0 (owned E ob) c b→b<w.heap.size:=by
     intro b hb;cases c with
     | pl =>
       rcases hb with hb|hb
       · have:=aa b hb;have:=hw.below.size;omega
       · exact(hw.bF hb).2
     | mx=>exact(hw.bF hb).2
     | vw=>exact hb.elim
   have hall:=h.2 w (cB M0 (owned E ob) c) (args.toList.map ev) PD (by simpa using g1) g2;have e1:(args.toList.map ev).toArray=args.map ev++#[]:=by apply ab1 ;simp
   rw[e1] at hall;exact hall.mono fun e w' ⟨v,he,hb,hrv⟩=>⟨v,he,hb.to,hrv.rep PD⟩
theorem Js {o:Oper}{ρ:Operand→Option SV}{ob:List (Nat×Ob)}{x y:Operand}{T T':TypeId}{k:IntKind}{b:Int}(ho:o.op=.binOp .rem T x y T')(hx:aZ ρ x=some (.int k a))(hy:aZ ρ y=some (.int k b))(h:0≤a∧0<b):Pure P w0 M0 o ρ ob (.v .pl (.sc (.int k (a % b)))):=by have:=Lo (P:=P) (w0:=w0) (M0:=M0) (ob:=ob) ho hx hy acK;rwa [Int.tmod_eq_emod_of_nonneg h.1] at this
theorem Jt {o:Oper}{ρ:Operand→Option SV}{ob:List (Nat×Ob)}{x y:Operand}{T T':TypeId}{b:Int}(ho:o.op=.binOp .quo T x y T')(hx:aZ ρ x=some (.int .i64 a))(hy:aZ ρ y=some (.int .i64 b))(h:0≤a∧0<b∧a≤9223372036854775807):Pure P w0 M0 o ρ ob (.v .pl (int (a / b))):=by have:=Ln (P:=P) (w0:=w0) (M0:=M0) (ob:=ob) ho hx hy acK;have h1:0≤a / b:=Int.ediv_nonneg h.1 acK;have h2:a / b≤a:=Int.ediv_le_self _ h.1;rwa [Int.tdiv_eq_ediv_of_nonneg h.1,wrap64 acK acK] at this
theorem nD {f:α→AV}{l:List α}{o:Oper}{ρ:Operand→Option SV}{ob:List (Nat×Ob)}{x:Operand}{T e:TypeId}{c:fW}(ho:o.op=.call { callee:=.builtin .len,args:=#[x],argTypes:=#[T] })(hT:P.underlying T=some (.slice e))(hx:viewAt ρ ob x=some (c,.sl (l.map f))) :
  Pure P w0 M0 o ρ ob (.v .pl (int l.length)):=by
 have:=Di (P:=P) (w0:=w0) (M0:=M0) ho hT hx;rwa [aai] at this
def SQ (P:Program)(w0:Fr)(M0:Nat→Prop)(R:St→Prop)(Q:Exit→St→Prop):Exit→St→Prop
 | .normal,s=>∃s',fF P w0 M0 s s'∧R s'
 | e,s=>Q e s
theorem LK {x y : Code} {s : St} {Q : Exit → St → Prop} (R : St → Prop) (h : ao P w0 M0 x s (SQ P w0 M0 R Q)) (h' : ∀ s, R s → ao P w0 M0 y s Q) : ao P w0 M0 (.seq x y) s Q :=
 Dp (h.mono fun e s' hq=>by
   cases e<;>simp only[SQ,Pz] at hq ⊢<;>first
     | exact hq
     | (obtain ⟨s2, hi, hR⟩ := hq
        exact ao.imp hi (h' s2 hR)))
theorem Dy {o:Oper}{ρ:Operand→Option SV}{ob:List (Nat×Ob)}{x y:Operand}{T T':TypeId}{b:Int}(ho:o.op=.call { callee:=.builtin .min,args:=#[x,y],argTypes:=#[T,T'] })(hx:aZ ρ x=some (.int .i64 a))(hy:aZ ρ y=some (.int .i64 b)):Pure P w0 M0 o ρ ob (.v .pl (int (if b<a then b else a))) :=
 nA rfl fun w ev h=>by
  simp[execOp,ho,resolve,h x _ hx,h y _ hy,invoke,builtin,go_sem]
  try (rw[Int.min_def];split<;>split<;>omega)
end
end Go.Am
