/-
  Part of the proof.
-/
import Derived.Test.YtlapahnodhmcpaaGreatJ0
import Derived.Test.YtlapahnodhmcpaaGreatJ8
import Derived.Test.YtlapahnodhmcpaaGreatJ9
import Derived.RangeFuncNested
import Derived.RangeFuncKeeps
import Derived.OrdersIn
import Derived.RangeFuncLeaves
set_option linter.unusedVariables false
set_option linter.unusedSectionVars false
set_option linter.unusedSimpArgs false
set_option maxRecDepth 100000
set_option maxHeartbeats 40000000
namespace Go.Am
open Go.RowKit
structure ur (o:Obj):Prop where
 cells:∀c e f,o≠.cells c e f
 map:∀es c,o≠.map es c
theorem nG (r:Loop):ur (.loop r):=⟨fun _ _ _ h=>(by cases h),fun _ _ h=>(by cases h)⟩
theorem BV (ds:Option (List Deferred)):ur (.deferred ds):=⟨fun _ _ _ h=>(by cases h),fun _ _ h=>(by cases h)⟩
variable{v:Value}{M:Nat→Prop}{n b:Nat}{o':List (Nat×Ob)}
section
variable {P:Program} {w0:Fr}{M0:Nat→Prop}{E:Env}{o:List (Nat×Ob)}{w:World}{l:Nat}{x x':Obj}
theorem Ar (hl:w.heap[l]?=some x)(hx:ur x){a:Addr}(h:w.cell? a=some v):(w.putObj l x').cell? a=some v:=by
 obtain⟨b,off,sp⟩:=a;by_cases hb:b=l
 ·subst hb;exfalso;unfold World.cell? at h;simp only at h;rw[hl] at h;cases x with
  | cells c e f=>exact hx.cells c e f rfl
  | _=>cases h
 ·rw[←h];exact World.cell?_of_block (World.putObj_heap_other hb)
theorem bJ.pS {d:AV}(h:bJ w M v d)(hl:w.heap[l]?=some x)(hx:ur x):bJ (w.putObj l x') M v d:=by
 induction h with
 | sc v h=>exact .sc v h
 | sl a n cap xs k cv hn hc hk hbl hlf hr ih =>
   refine .sl a n cap xs k cv hn hc hk (fun h0=>?_) hlf ih;obtain⟨b,o,e,h1,h2,h3⟩:=hbl h0;exact⟨b,o,e,h1,by rw[World.putObj_size];exact h2,fun j hj=>Ar hl hx (h3 j hj)⟩
 | agg vs cs hn hlf hr ih=>exact .agg vs cs hn hlf ih
 | tup vs cs hn hr ih=>exact .tup vs cs hn ih
 | pc b o off cs cv h1 h2 hc hlf hr ih=>exact .pc b o off cs cv h1 (by rw[World.putObj_size];exact h2) (fun j hj=>Ar hl hx (hc j hj)) hlf ih
 | clo f vs cs hn hr ih=>exact .clo f vs cs hn ih
 | mp r es clock ks vs h1 h2 hc hk hn hr ih =>
   refine .mp r es clock ks vs h1 (by rw[World.putObj_size];exact h2) ?_ hk hn ih;rw[World.putObj_heap_other fun e=>?_]
   · exact hc
   · rw [e, hl] at hc
     injection hc with hc;exact hx.map es clock hc
theorem bm.pS {d:SV}(h:bm P M0 w E o v d)(hl:w.heap[l]?=some x)(hx:ur x):bm P M0 (w.putObj l x') E o v d:=by
 have caps:∀{vs:List Value}{cs:List qI},(∀(j:Nat) c,cs[j]?=some c→Dh M0 w E o (vs.getD j undef) c)→∀(j:Nat) c,cs[j]?=some c→Dh M0 (w.putObj l x') E o (vs.getD j undef) c:=fun h j c hc=>by
  have:=h j c hc;cases c with
  | bx id=>exact this
  | pl d=>exact bJ.pS this hl hx
  | ow id=>exact this
  | om id=>exact this
 cases d with
 | v c d=>exact bJ.pS h hl hx
 | own id=>exact h
 | pel id i off=>exact h
 | pbox id off=>exact h
 | omap id=>exact h
 | vsl id i n=>exact h
 | fn f cs=>obtain⟨vs,h1,h2,h3⟩:=h;exact⟨vs,h1,h2,caps h3⟩
 | hid R cs=>obtain⟨vs,h1,h2,h3⟩:=h;exact⟨vs,h1,h2,caps h3⟩
 | nst id=>exact h
 | nel id j=>exact h
 | dead=>exact h
theorem td {e:TypeId}{k:Nat}{xs:List Value}(h:w.ownsRow 0 e k v n xs)(hb:v.ownBlock=some b)(hl:w.heap[l]?=some x)(hx:ur x):b≠l:=by
 rcases h.2 with⟨h2,_⟩|⟨g,cap,cur,hv,_,h3,_⟩
 ·rw[h2] at hb;cases hb
 ·rw[hv] at hb;injection hb with hb;subst hb;intro q;have q:g=l:=q;rw[q,hl] at h3;injection h3 with h3;exact hx.cells _ _ _ h3
theorem xx {es:Array MapEntry}{c:Nat}(h:w.heap[b]?=some (.map es c))(hl:w.heap[l]?=some x)(hx:ur x):b≠l:=fun q=>by rw[q,hl] at h;injection h with h;exact hx.map _ _ h
theorem As {f:Nat→Value}{cs:List Cell}{ln:Option (Nat×dX)}(h:jl P w0 M0 w E o f cs ln)(hb:fX f b cs ln)(hl:w.heap[l]?=some x)(hx:ur x):b≠l:=by
 obtain⟨j,c,hc,hln,hb⟩:=hb;have:=h.ok j c hc hln;cases c with
 | d y=>exact hb.elim
 | row e xs=>obtain⟨vals,h1,_⟩:=this;exact td h1.1 hb hl hx
 | mp ks vs =>
   obtain⟨b',e,es,clock,h1,_⟩:=this;rw[show f j=_ from hb] at e;injection e with e;injection e with e;subst e;exact xx h1 hl hx
def Fr.at (w0:Fr)(w:World)(hs:w0.w.heap.size≤w.heap.size)(m:Md):Fr:=⟨w,w0.K,fun b hb=>aaT (w0.hK b hb) hs,w0.pin,w0.hpin,w0.dr,m⟩
theorem kT.pS {w1:Fr}(hK:w1.K=w0.K){id:Nat}{ob:Ob}(h:kT P w0 M0 w E o id ob)(hl:w.heap[l]?=some x)(hx:ur x):kT P w1 M0 (w.putObj l x') E o id ob:=by
 have hf:∀b,mK w0 M0 b→mK w1 M0 b:=fun b hb=>by unfold mK at hb ⊢;rw[hK];exact hb
 cases ob with
 | arr e xs =>
   obtain⟨vals,h1,h2,h3⟩:=h;exact⟨vals,⟨kq h1.1 fun g hg=>World.putObj_heap_other (td h1.1 hg hl hx),fun b hb=>hf b (h1.2 b hb)⟩,h2,fun j d hd=>⟨(h3 j d hd).1,(h3 j d hd).2.pS hl hx⟩⟩
 | box e cs =>
   obtain⟨vals,h1,h2,h3,h4⟩:=h;refine⟨vals,?_,hf _ h2,h3,fun j s hs=>⟨(h4 j s hs).1,(h4 j s hs).2.1,(h4 j s hs).2.2.pS hl hx⟩⟩;rw[World.putObj_heap_other fun q=>?_]
   · exact h1
   · rw [q, hl] at h1
     injection h1 with h1;exact hx.cells _ _ _ h1
 | mp ks vs =>
   obtain⟨es,clock,h1,h2,h3,h4,h5⟩:=h;exact⟨es,clock,by rw[World.putObj_heap_other (xx h1 hl hx)];exact h1,hf _ h2,h3,h4,fun j d hd=>(h5 j d hd).pS hl hx⟩
 | nar e cs ln =>
   obtain⟨n,vals,h1,h2,h3,h4,h5⟩:=h;exact⟨n,vals,⟨kq h1.1 fun g hg=>World.putObj_heap_other (td h1.1 hg hl hx),fun b hb=>hf b (h1.2 b hb)⟩,h2,h3,
     h4.go (np.refl _ _) (fun b hb=>World.putObj_heap_other (As h4 hb hl hx)) (fun b _ hb=>hf b hb) (fun _ _ hr=>hr.pS hl hx),h5⟩
 | nmp ks cs ln =>
   obtain⟨es,clock,h1,h2,h3,h4,h5,h6,h7⟩:=h;exact⟨es,clock,by rw[World.putObj_heap_other (xx h1 hl hx)];exact h1,hf _ h2,h3,h4,h5,
     h6.go (np.refl _ _) (fun b hb=>World.putObj_heap_other (As h6 hb hl hx)) (fun b _ hb=>hf b hb) (fun _ _ hr=>hr.pS hl hx),h7⟩
theorem gr.begin (h:gr P w0 M0 E o w)(hl:w.heap[l]?=some x)(hx:ur x)(hs:w0.w.heap.size≤(w.putObj l x').heap.size)(m:Md):gr P (w0.at (w.putObj l x') hs m) M0 E o (w.putObj l x') :=
 ⟨fun id ob ho=>kT.pS (w0:=w0) (w1:=w0.at (w.putObj l x') hs m) rfl (h.objs id ob ho) hl hx,h.disj,.refl _ _,h.pins⟩
theorem gr.pS (h:gr P w0 M0 E o w)(hl:w.heap[l]?=some x)(hx:ur x)(hK:¬w0.K l):gr P w0 M0 E o (w.putObj l x') :=
 ⟨fun id ob ho=>kT.pS (w1:=w0) rfl (h.objs id ob ho) hl hx,h.disj,h.below.trans ⟨rfl,rfl,rfl,by rw[World.putObj_size];exact aak _,fun k hk=>World.putObj_heap_other fun e=>hK (e ▸ hk),fun _=>aak _⟩,h.pins⟩
theorem gr.here (h:gr P w0 M0 E o w)(hs:w0.w.heap.size≤w.heap.size)(m:Md):gr P (w0.at w hs m) M0 E o w :=
 ⟨fun id ob ho=>by
   have:=h.objs id ob ho;cases ob with
   | arr e xs=>exact this
   | box e cs=>exact this
   | mp ks vs=>exact this
   | nar e cs ln =>
     obtain⟨n,vals,h1,h2,h3,h4,h5⟩:=this;exact⟨n,vals,h1,h2,h3,h4.go (np.refl _ _) (fun _ _=>rfl) (fun _ _ h=>h) (fun _ _ h=>h),h5⟩
   | nmp ks cs ln =>
     obtain⟨es,clock,h1,h2,h3,h4,h5,h6,h7⟩:=this;exact⟨es,clock,h1,h2,h3,h4,h5,h6.go (np.refl _ _) (fun _ _=>rfl) (fun _ _ h=>h) (fun _ _ h=>h),h7⟩,h.disj,.refl _ _,h.pins⟩
theorem gr.finish {w1:Fr}{W3:World}{E3:Env}(h3:gr P w1 M0 E3 o' W3)(hK1:w1.K=w0.K)(hp1:w1.pin=w0.pin)(h0:xc w0.dr w0.K w0.w w)(hl:w.heap[l]?=some x)(hl3:W3.heap[l]?=some x')(hx:ur x')
  (hsz:w.heap.size≤W3.heap.size)(hos:W3.os=w.os)(htp:W3.tape=w.tape)(hou:W3.output=w.output)(hdr:w0.dr→w.drawn≤W3.drawn)(hsame:∀k,w0.K k→k≠l→W3.heap[k]?=w.heap[k]?):gr P w0 M0 E3 o' (W3.putObj l x):=by
 have hl3':=gu hl3;refine⟨fun id ob ho=>(h3.objs id ob ho).pS hK1.symm hl3 hx,h3.disj,⟨hos.trans h0.os,htp.trans h0.tape,hou.trans h0.output,by rw[World.putObj_size];exact aaO h0.size hsz,fun k hk=>?_,fun d=>aaO (h0.drawn d) (hdr d)⟩,fun y hy=>h3.pins y (by rw[hp1];exact hy)⟩;by_cases q:k=l
 ·subst q;rw[World.putObj_heap_same hl3',←hl];exact h0.block k hk
 ·rw[World.putObj_heap_other q,hsame k hk q];exact h0.block k hk
end
def yR (l:Nat)(r:Loop)(ts:List Nat)(v:Value)(vs:List Value):Prop:=v=.func (.yield l) #[] #[]∧vs=ts.map fun t=>r.tmps.getD t undef
def L7 (P:Program)(l:Nat)(r:Loop)(ts:List Nat)(args caps:List SV)(o o':List (Nat×Ob)):Prop :=
 ∀ (w0 : Fr) (M0 : Nat → Prop) (E : Env) (w : World) (vs : List Value), (∀ b, M0 b → b < w0.w.heap.size) → gr P w0 M0 E o w → w0.K l → w.heap[l]? = some (.loop r) → vs.length = args.length →
   (∀(j:Nat) d,args[j]?=some d→bm P M0 w E o (vs.getD j undef) d)→(∀(j:Nat) d,caps[j]?=some d→bm P M0 w E o (r.tmps.getD (ts.getD j 0) undef) d) →
   YieldAt Fence.wide 0 P l vs.toArray w fun e w'=>∃E',e=.returned (.bool true)∧gr P w0 M0 E' o' w'
def UI (o':List (Nat×Ob)):Exit→St→Prop
 | .normal,s=>∀id ob,o'.lookup id=some ob→s.o.lookup id=some ob
 | _,_=>False
def XP (P:Program)(bod:Code)(o':List (Nat×Ob)):Exit→St→Prop
 | .normal,s=>∀(w1:Fr)(M1:Nat→Prop),(∀b,M1 b→b<w1.w.heap.size)→(∃l,w1.md=.round l)→ao P w1 M1 bod s (UI o')
 | _,_=>False
theorem xy:∀ {ts:List Nat}{cs:List SV}{t:Nat}{d:SV},(ts.zip cs).lookup t=some d→∃j,j<ts.length∧ts.getD j 0=t∧cs[j]?=some d
 | [],_,t,d,h=>by simp at h
 | _ :: _,[],t,d,h=>by simp at h
 | a :: ts, c :: cs, t, d, h => by
   rw[List.zip_cons_cons,aj] at h;split at h
   · next q=>subst q;injection h with h;subst h;exact⟨0,Nat.succ_pos _,rfl,rfl⟩
   · obtain ⟨j, h1, h2, h3⟩ := xy h
     exact⟨j+1,by simpa using h1,by simpa using h2,by simpa using h3⟩
variable{t:Nat}
theorem JE {a:Array Value}{p q:Nat}{u:Value}(hp:p<a.size)(hq:q<a.size):((a.setIfInBounds p u).setIfInBounds q v).getD t undef=if t=q then v else if t=p then u else a.getD t undef:=by
 simp only[aaL,Array.getElem?_setIfInBounds,Array.size_setIfInBounds];by_cases h1:q=t
 ·subst h1;simp[hq]
 ·rw[if_neg h1,if_neg (abi h1)];by_cases h2:p=t
  ·subst h2;simp[hp]
  ·rw[if_neg h2,if_neg (abi h2)]
variable{r:Loop}
section
variable {P:Program}
theorem BW {l:Nat}{p q:Nat}{ts:List Nat}{d1 d2:SV}{caps:List SV}{o:List (Nat×Ob)}{asg bod:Code}(hst:r.state=.ready)(hpe:r.pending=none)(hn:r.tmps.size=n)(hps:r.params=#[p,q])(hasg:r.assign=asg)(hbod:r.body=bod)
   (hpq:(Nat.blt p n&&Nat.blt q n&&!Nat.beq p q&&ts.all fun t=>Nat.blt t n&&!Nat.beq t p&&!Nat.beq t q)=true)
   (hA:∀(w1:Fr)(M1:Nat→Prop),(∀b,M1 b→b<w1.w.heap.size)→(∃l,w1.md=.round l)→ao P w1 M1 asg ⟨n,(p,d1) :: (q,d2) :: ts.zip caps,o⟩ (XP P bod o')):L7 P l r ts [d1,d2] caps o o':=by
 intro w0 M0 E w vs aa hw hK hl hvs hargs hcaps;obtain⟨v1,v2,rfl⟩:∃v1 v2,vs=[v1,v2]:=by
   match vs,hvs with
   | [a,b],_=>exact⟨a,b,rfl⟩
 subst hasg hbod;simp only[aax,aa5,aaF] at hpq;obtain⟨⟨⟨hp,hq⟩,hne⟩,hts⟩:=hpq;have hp:p<n:=by simpa using hp
 have hq:q<n:=by simpa using hq
 have hne:p≠q:=fun e=>by rw[e,ab8] at hne;cases hne
 have hsz:=hw.below.size;have hy:=run_yield (P:=P) (args:=#[v1,v2]) hl (by rw[hps];rfl);refine⟨_,_,_,_,hy,roundIn_of_wpIn trivial ?_⟩;have hs0:ba P (w0.at w hsz (.round l)) M0 E ⟨n,(p,d1) :: (q,d2) :: ts.zip caps,o⟩ { tmps:=(r.params.zip #[v1,v2]).foldl (fun tmps (t,a)=>tmps.setIfInBounds t a) r.tmps,defers:=[] } w:=by
   have et:(r.params.zip #[v1,v2]).foldl (fun tmps (t,a)=>tmps.setIfInBounds t a) r.tmps=(r.tmps.setIfInBounds p v1).setIfInBounds q v2:=by rw[hps,show(#[p,q]:Array Nat).zip #[v1,v2]=#[(p,v1),(q,v2)] from by simp];rfl
   rw[et];refine⟨by simpa using hn,rfl,fun t d ht=>?_,hw.here hsz _⟩;rw[JE acK acK];simp only[aj] at ht;by_cases h1:p=t
   · subst h1
     rw[if_pos rfl] at ht;injection ht with ht;subst ht;rw[if_neg hne,if_pos rfl];exact⟨hp,hargs 0 d1 J⟩
   · rw [if_neg (abi h1)] at ht
     by_cases h2:q=t
     · subst h2
       rw[if_pos rfl] at ht;injection ht with ht;subst ht;rw[if_pos rfl];exact⟨hq,hargs 1 d2 J⟩
     · rw [if_neg (abi h2)] at ht
       rw[if_neg (abi h2),if_neg (abi h1)];obtain⟨j,hj,rfl,hd⟩:=xy ht;have:=hts (ts.getD j 0) (by rw[aag,aal hj];exact abp hj);exact⟨by simpa using this.1.1,hcaps j d hd⟩
 have hAA:=hA (w0.at w hsz (.round l)) M0 (fun b hb=>aaT (aa b hb) hsz) ⟨l,rfl⟩ _ w ⟨E,hs0⟩;refine wpIn_mono (show Code.wpIn (Fence.wide.inRound l) 0 P r.assign _ _ w from hAA) ?_;rintro e a1 wA ⟨s',hQ,E1,hs1⟩;cases e with
 | normal =>
   have hb1:=hs1.wok.below;have hlA:wA.heap[l]?=some (.loop r):=(hb1.block l hK).trans hl;refine⟨_,run_beginRound hlA hst,?_⟩;have hszA:(w0.at w hsz (.round l)).w.heap.size≤(wA.putObj l (.loop { r with state:=.busy })).heap.size:=by rw[World.putObj_size];exact hb1.size
   have hlB:(wA.putObj l (.loop { r with state:=.busy })).heap[l]?=some (.loop { r with state:=.busy }):=World.putObj_heap_same (gu hlA);have hs2:ba P ((w0.at w hsz (.round l)).at (wA.putObj l (.loop { r with state:=.busy })) hszA (.round l)) M0 E1 s' a1 (wA.putObj l (.loop { r with state:=.busy })) :=
     ⟨hs1.size,hs1.defers,fun t d ht=>⟨(hs1.slots t d ht).1,(hs1.slots t d ht).2.pS hlA (nG r)⟩,hs1.wok.begin hlA (nG r) hszA _⟩
   have hBB:=hQ ((w0.at w hsz (.round l)).at (wA.putObj l (.loop { r with state:=.busy })) hszA (.round l)) M0 (fun b hb=>aaT (aaT (aa b hb) hsz) hszA) ⟨l,rfl⟩ a1 _ ⟨E1,hs2⟩;refine wpIn_mono (show Code.wpIn (Fence.wide.inRound l) 0 P r.body _ a1 _ from hBB) ?_;rintro e a3 W3 ⟨s3,ZW,E3,hs3⟩;cases e with
   | normal =>
     have hb3:=hs3.wok.below;have hl3:W3.heap[l]?=some (.loop { r with state:=.busy }):=(hb3.block l hK).trans hlB;have hend:=run_endRound (P:=P) none hl3;refine⟨_,_,hend,E3,rfl,?_⟩;have er:({ ({ r with state:=.busy }:Loop) with state:=if(none:Option Code).isNone then .ready else .done,pending:=none }:Loop)=r:=by
       cases r;simp_all
     rw[er];refine gr.finish (w1:=(w0.at w hsz (.round l)).at _ hszA (.round l)) (hs3.wok.mN ZW) J J hw.below hl hl3 (nG _) ?_ (hb3.os.trans hb1.os) (hb3.tape.trans hb1.tape) (hb3.output.trans hb1.output) (fun d=>aaO (hb1.drawn d) (hb3.drawn d)) fun k hk hkl=>?_
     · have h1 := hb1.size
       have h3:=hb3.size;have h4:(wA.putObj l (.loop { r with state:=.busy })).heap.size=wA.heap.size:=World.putObj_size;have h5:((w0.at w hsz (.round l)).at (wA.putObj l (.loop { r with state:=.busy })) hszA (.round l)).w.heap.size=(wA.putObj l (.loop { r with state:=.busy })).heap.size:=rfl;have h6:(w0.at w hsz (.round l)).w.heap.size=w.heap.size:=rfl;omega
     · exact(hb3.block k hk).trans ((World.putObj_heap_other hkl).trans (hb1.block k hk))
   | _=>exact ZW.elim
 | _=>exact hQ.elim
end
variable{s:St}{args:List SV}{Q:Exit→St→Prop}{f:Nat}{c:Code}
section
variable {P:Program} {w0:Fr}{M0:Nat→Prop}
def L8 (P:Program)(w0:Fr)(M0:Nat→Prop)(o:Oper)(s s':St):Prop :=
 o.guard=none∧∀a w Q,pE P w0 M0 s a w→o.wpIn Fence.wide 0 P a w (fun a' w'=>pE P w0 M0 s' a' w') Q
theorem xz {o:Oper}{cx:Operand}{args:Array Operand}{ats:Array TypeId}{l:Nat}{ev:Operand→Value}(ho:o.op=.call { callee:=.value cx,args:=args,argTypes:=ats })
  (hc:ev cx=.func (.yield l) #[] #[]):execOp ev o=Instr.yield l (args.map ev):=by
 simp[execOp,ho,resolve,hc,Deferred.ofValue,invoke]
theorem sd {o:Oper}{cx:Operand}{xs:Array Operand}{ats:Array TypeId}{l:Nat}{ts:List Nat}{cps:List qI}{svs caps:List SV}{oc oc':List (Nat×Ob)}(ρ:List (Nat×Nat))(ho:o.op=.call { callee:=.value cx,args:=xs,argTypes:=ats })(hg:o.guard=none)(hd:o.dst=some t)(hn:Nat.blt t s.n=true)(hnd:Nodup s.s=true)
  (hc:s.ev cx=some (.hid (yR l r ts) cps))(ha:Po s xs.toList=some svs)(h:L7 P l r ts args caps oc oc')(L9:w0.K l)(hwl:w0.w.heap[l]?=some (.loop r))(hargs:lj s ρ (cR ρ oc) svs args)(hcaps:lj s ρ (cR ρ oc) (cps.map qI.sv) caps)(hob:oB s ρ oc)(hinj:jo (cR ρ oc)=true)(hsame:oc.map (fun p=>(p.1,p.2.kind))=oc'.map (fun p=>(p.1,p.2.kind)))
  (hbig:oc.all (fun p=>Nat.beq p.2.kind 0||Nat.ble 1000000 p.1)=true)(hpl:oc'.all (fun p=>p.2.plain (oc'.map (·.1)))=true)(aa:∀b,M0 b→b<w0.w.heap.size) :
  L8 P w0 M0 o s ((s.after ρ oc').put t (.v .pl (.sc (.bool true)))):=by
 refine⟨hg,?_⟩;rintro a w Q ⟨E,hs⟩;obtain⟨env,⟨hcv,henv⟩,hel,hecap⟩:=hs.ev hc;obtain⟨hxn,hxr⟩:=Gc hs ha;have hob':=hob.out;obtain⟨han,har⟩:=hargs.get;obtain⟨hcn,hcr⟩:=hcaps.get;have hwc:=wC hs.wok hob' hinj;have hlt:l<w.heap.size:=aaT (w0.hK l L9) hs.wok.below.size;have hno:¬owned (fI E ρ) oc l:=fun hq=>(hs.wok.bF (eS hob' hq)).1.1 L9
 have hwl':w.heap[l]?=some (.loop r):=(hs.wok.below.block l L9).trans hwl;have hcps:∀(j:Nat) d,(cps.map qI.sv)[j]?=some d→bm P M0 w E s.o (env.getD j undef) d:=fun j d hd=>by
  rw[aap,aao] at hd;obtain⟨c,hc,rfl⟩:=hd;have:=hecap j c hc;cases c with
  | bx id=>exact this
  | pl d=>exact this
  | ow id=>exact this
  | om id=>exact this
 have hall:=h (SS w0.dr w (fI E ρ) oc) (Lg M0 (owned E s.o) (owned (fI E ρ) oc)) (fI E ρ) w (xs.toList.map a.eval) (fun b hb=>?_) hwc ⟨hlt,hno⟩ hwl' (by rw[←han];simpa using hxn) (fun j d hd=>?_) (fun j d hd=>?_)
 ·refine⟨fun _ _=>trivial,?_⟩;obtain⟨fn,tmps,asg,bod,hy,hR⟩:=hall;have e1:(xs.toList.map a.eval).toArray=xs.map a.eval:=by apply ab1;simp
  rw[e1] at hy;rw[show(Fence.wide).round=none from rfl,Oper.semAt_none,xz ho hcv,hy];refine⟨fun hd=>by simp[Fence.wide] at hd,RoundIn.mono hR fun e w' hw'=>?_⟩;obtain⟨E',he,hw'⟩:=hw';subst he;simp only[hd];obtain⟨E'',h1,h2⟩:=hs.after hnd hob' hinj hsame hbig hpl hw';exact⟨E'',h1.put (by simpa[St.after] using hn) (.sc _ J)⟩
 ·rcases hb with hb|hb
  ·have:=aa b hb;have:=hs.wok.below.size;show b<w.heap.size;omega
  ·exact(hs.wok.bF hb.1).2
 ·obtain⟨sv,hsv,hok⟩:=har j d hd;exact xo hs.wok hob' (hxr j sv hsv) hok
 ·obtain⟨sv,hsv,hok⟩:=hcr j d hd;have h1:=hcps j sv hsv;have hj:j<ts.length:=by
   have:=(aaz.1 hsv).1;rw[aai,←hel,henv,aai] at this;exact this
  have h2:env.getD j undef=r.tmps.getD (ts.getD j 0) undef:=by
   rw[henv,aag,aap,aal hj,aag,aal hj];rfl
  rw[h2] at h1;exact xo hs.wok hob' h1 hok
theorem JF {o:Oper}{a:Act}{w:World}{K K':Act→World→Prop}{Q Q':Exit→Act→World→Prop}(hQ:∀e a w,Q e a w→e=.normal)(hK:∀a w,K a w→K' a w)(h:o.wp P a w K Q):o.wpIn Fence.wide 0 P a w K' Q':=by
 refine⟨fun _ _=>trivial,?_⟩;rw[show(Fence.wide).round=none from rfl,Oper.semAt_none];unfold Oper.wp at h;generalize (execOp a.eval o).run P w=r at *;cases r with
 | ok x w' =>
   cases x with
   | enter f args =>
     refine⟨fun hd=>by simp[Fence.wide] at hd,callsIn_wide.2 (Calls.mono (show Calls P f args w' _ from h) fun e w'' he=>?_)⟩;cases e with
     | returned v=>exact hK _ _ he
     | panicked ch=>exact nomatch hQ _ _ _ he
     | outgrown=>obtain⟨a0,w0,he⟩:=he;exact nomatch hQ _ _ _ he
   | row rw' args =>
     refine⟨fun hd=>by simp[Fence.wide] at hd,fun c cs _=>?_⟩;obtain⟨v,w'',r1,s1⟩:=(show Rows P rw' args w' _ from h) c cs;exact⟨v,w'',hK _ _ r1,stepsIn_wide.2 s1⟩
   | value v=>exact hK _ _ h
   | skip=>exact hK _ _ h
   | defer d=>exact hK _ _ h
   | _=>exact(show False from h).elim
 | halt x w' =>
   cases x with
   | panic v=>exact nomatch hQ _ _ _ (show Q (.panic _) a w' from h)
   | _=>exact(show False from h).elim
theorem pT {ops:Array Oper}{Q Q':Exit→Act→World→Prop}{m:List Nat}(hQ:∀e a w,Q e a w→e=.normal)(hK:∀a w,Q .normal a w→wpOpsIn Fence.wide 0 P ops Q' m a w):∀(r:List Nat)(a:Act)(w:World),wpOps P ops Q r a w→wpOpsIn Fence.wide 0 P ops Q' (r++m) a w
 | [],a,w,h=>hK a w h
 | i :: r, a, w, h => by
   rw[wpOps_cons] at h;rw[abN,wpOpsIn_cons];unfold wpOp at h;unfold wpOpIn;cases ho:ops[i]? with
   | none=>rw[ho] at h;exact pT hQ hK r a w h
   | some o =>
     rw[ho] at h;dsimp only at h ⊢;by_cases hw:Region.wanted o (yielded ops a.tmps)=true
     · rw [if_pos hw] at h ⊢
       rcases h with h|⟨_,a0,w0,h⟩
       · exact JF hQ (fun a w=>pT hQ hK r a w) h
       · exact nomatch hQ _ _ _ h
     · rw [if_neg hw] at h ⊢
       exact⟨fun _ _=>trivial,pT hQ hK r _ w h⟩
theorem me {ops:Array Oper}{Q:St→Prop}:∀(l:List Oper)(k:Nat)(s:St),(∀j,j<l.length→l[j]?=ops[k+j]?)→kr P w0 M0 ops Q l s→vq P w0 M0 ops (List.range' k l.length) s Q
 | [], k, s, _, h => by
   obtain⟨s1,hi,hq⟩:=h;exact fun a w hs=>HN hq a w (hi a w hs)
 | o :: rest, k, s, hl, h => by
   obtain⟨s1,hi,s',h1,h2⟩:=h;have ho:ops[k]?=some o:=by have:=hl 0 (Nat.succ_pos _);simpa using this.symm
   have ih:=me rest (k+1) s' (fun j hj=>by have:=hl (j+1) (by rw[aam];omega);rw[abw] at this;rw[this];congr 1;omega) h2;rw[aam,List.range'_succ];rcases h1 with⟨hg,hs⟩|⟨hg,t,ht,hn,rfl⟩
   · exact fun a w hsim=>Dl ho hg hs ih a w (hi a w hsim)
   · exact fun a w hsim=>Dn ho hg ht hn ih a w (hi a w hsim)
theorem BX {ops:Array Oper}{id:Nat}(hmd:w0.md=.plain)(pre post:List Oper)(o:Oper)(hl:ops.toList=pre++o :: post)
  (h:kr P w0 M0 ops (fun s1=>∃s2,L8 P w0 M0 o s1 s2∧kr P w0 M0 ops (Q .normal) post s2) pre s):ao P w0 M0 (.region id ops false) s Q:=by
 intro a w hs;rw[hmd];refine(wpIn_wide (n:=0)).1 (wpIn_region ?_);have hsz:ops.size=pre.length+(1+post.length):=by rw[←ab5,hl];simp;omega
 have hget:∀j:Nat,ops[j]?=(pre++o :: post)[j]?:=fun j=>by rw[←hl,aaS]
 have er:List.range ops.size=List.range' 0 pre.length++(pre.length :: List.range' (pre.length+1) post.length):=by
  rw[hsz,List.range_eq_range',←List.range'_append_1,abg,Nat.add_comm 1,List.range'_succ]
 rw[er];have h1:=me pre 0 s (fun j hj=>by rw[abg,hget j,aaH hj]) h;refine pT (fun e a w h=>h.1) (fun a1 w1 hq=>?_) _ a w (h1 a w hs);obtain⟨_,s1,⟨s2,hy,h2⟩,hs1⟩:=hq;have ho:ops[pre.length]?=some o:=by rw[hget,aaE (aak _),ach];rfl
 have h3:=me post (pre.length+1) s2 (fun j hj=>by rw[hget,aaE acK,show pre.length+1+j-pre.length=j+1 by omega,abw]) h2;rw[wpOpsIn_cons];unfold wpOpIn;rw[ho];dsimp only
 rw[if_pos (by unfold Region.wanted;rw[hy.1])];refine Oper.wpIn_mono (fun a2 w2 hs2=>?_) (hy.2 a1 w1 _ hs1);have h4:=pT (P:=P) (ops:=ops) (m:=[]) (Q':=fun e a' w'=>∃s',Q e s'∧pE P w0 M0 s' a' w') (fun e a w h=>h.1) (fun a3 w3 hq=>?_) _ a2 w2 (h3 a2 w2 hs2)
 ·rwa [aaP] at h4
 ·obtain⟨_,s',hq,hs3⟩:=hq;exact⟨s',hq,hs3⟩
def Au (P:Program)(f:FuncId)(l:Nat)(r:Loop)(args:List SV)(o:List (Nat×Ob))(o':List (Nat×Ob)):Prop :=
 cg P f∧∀(w0:Fr)(M0:Nat→Prop)(E:Env)(w:World)(vs:List Value),(∀b,M0 b→b<w0.w.heap.size)→gr P w0 M0 E o w→w0.K l→w.heap[l]?=some (.loop r)→vs.length=args.length →
   (∀(j:Nat) d,args[j]?=some d→bm P M0 w E o (vs.getD j undef) d)→Calls P f vs.toArray w fun e w'=>∃v E',e=.returned v∧gr P w0 M0 E' o' w'
theorem mf {l:Nat}(hf:RB P f n c){o:List (Nat×Ob)}(hn:args.length≤n)
  (h:∀(w0:Fr)(M0:Nat→Prop),(∀b,M0 b→b<w0.w.heap.size)→w0.md=.plain→w0.K l→w0.w.heap[l]?=some (.loop r)→ao P w0 M0 c (St.fG n args o) (LW o')):Au P f l r args o o':=by
 refine⟨hf.bu,fun w0 M0 E w vs aa hw hK hl hv hr=>?_⟩;obtain⟨fn,h1,h2,h3,h4,h5⟩:=hf;refine(dm h1 h2 h3 (R:=fun v E' s' w'=>gr P w0 M0 E' o' w') hn vs hv hw hr (h w0.plain M0 aa J hK ((hw.below.block l hK).symm.trans hl)) (fun e s' a' w' E' hq hs=>?_)).mono fun e w' ⟨v,E',s',he,hR⟩=>⟨v,E',he,hR⟩
 have fin:(∀id ob,o'.lookup id=some ob→s'.o.lookup id=some ob)→∃v,(results fn a'.tmps).run P w'=.ok v w'∧gr P w0 M0 E' o' w':=fun q2 =>
  ⟨.tuple #[],by simp[results,h4],hs.wok.mN q2⟩
 cases e with
 | normal=>exact⟨.inl rfl,fin hq⟩
 | ret=>exact⟨.inr rfl,fin hq⟩
 | exit _=>exact hq.elim
 | goto _=>exact hq.elim
 | panic _=>exact hq.elim
 | outgrown=>exact hq.elim
theorem BY {f:FuncId}(hf:cg P f)(args:Array Value)(w:World):(callFunc f args).run P w=.ok (.enter f args) w:=by
 obtain⟨fn,h1,h2,h3⟩:=hf;have h3':fn.body≠none:=by intro hn;rw[hn] at h3;cases h3
 have h2' : ¬ fn.name = "runtime.NumGoroutine" := by simpa using h2
 simp[callFunc,h1,h2',h3']
theorem Av:∀ {Ds Ds':List Nat},Ds.map (fun D=>({ target:=.collected D,args:=#[] }:Deferred))=Ds'.map (fun D=>{ target:=.collected D,args:=#[] })→Ds=Ds'
 | [],[],_=>rfl
 | [],_ :: _,h=>by cases h
 | _ :: _,[],h=>by cases h
 | D :: Ds, D' :: Ds', h => by
   simp only[aa6,acC,Deferred.mk.injEq,Target.collected.injEq] at h;rw[h.1.1,Av h.2]
def uu (S:List (Nat×SV)):List Nat→Option (List SV)
 | []=>some []
 | t :: ts => match S.lookup t, uu S ts with
   | some d,some ds=>some (d :: ds)
   | _,_=>none
theorem xA {S:List (Nat×SV)}:∀{ts:List Nat}{ds:List SV},uu S ts=some ds→ts.length=ds.length∧∀(j:Nat) d,ds[j]?=some d→S.lookup (ts.getD j 0)=some d
 | [],ds,h=>by simp only[uu,aaj] at h;subst h;exact⟨rfl,fun j d hd=>by simp at hd⟩
 | t :: ts, ds, h => by
   unfold uu at h;split at h
   · next d0 ds0 h1 h2 =>
     injection h with h;subst h;obtain⟨g1,g2⟩:=xA h2;refine⟨by simp[g1],fun j d hd=>?_⟩;cases j with
     | zero=>simp only[aaN,aaj] at hd;subst hd;exact h1
     | succ j=>exact g2 j d (by simpa using hd)
   · cases h
theorem xB {g:Operand}{ps:Array Tmp}{asg bod:Code}{gf:FuncId}{dc:SV}{csI capsC:List SV}(ρ:List (Nat×Nat))(oc0 ocN:List (Nat×Ob))(ts:List Nat)(cps:List qI)(svs:List SV)(hmd:w0.md=.marks)(hnd:Nodup s.s=true)
   (hg:s.ev g=some dc)(hcal:nE dc=some (gf,csI))(hci:lj s ρ (cR ρ oc0) csI capsC)(hts:uu s.s ts=some svs)(hcaps:lj s ρ (cR ρ oc0) svs (cps.map qI.sv))
   (hit:∀l r,r.state=.ready→r.pending=none→r.tmps.size=s.n→r.params=ps→r.assign=asg→r.body=bod→Au P gf l r (.hid (yR l r ts) cps :: capsC) oc0 ocN)
   (hob:oB s ρ oc0)(hinj:jo (cR ρ oc0)=true)(hsame:oc0.map (fun p=>(p.1,p.2.kind))=ocN.map (fun p=>(p.1,p.2.kind)))
   (hbig:oc0.all (fun p=>Nat.beq p.2.kind 0||Nat.ble 1000000 p.1)=true)(hpl:ocN.all (fun p=>p.2.plain (ocN.map (·.1)))=true)(aa:∀b,M0 b→b<w0.w.heap.size)
   (hq:Q .normal (s.after ρ ocN)):ao P w0 M0 (.rangeFunc g ps asg bod) s Q:=by
 rintro a w ⟨E,hs⟩;rw[hmd];refine(wpIn_wide (n:=0)).1 (wpIn_rangeFunc fun fn _=>?_);obtain⟨rec,hrec⟩:∃rec:Loop,rec={ state:=.ready,pending:=none,fn,tmps:=a.tmps,params:=ps,assign:=asg,body:=bod,defers:=w.heap.size }:=⟨_,rfl⟩;obtain⟨W1,UJ⟩:∃W1,(w.alloc (.deferred (some []))).alloc (.loop rec)=W1:=⟨_,rfl⟩;have hz1:W1.heap.size=w.heap.size+2:=by rw[←UJ];simp
 have ZX:W1.heap[w.heap.size+1]?=some (.loop rec):=by
   rw[←UJ];have:=World.alloc_heap_new (w.alloc (.deferred (some []))) (.loop rec);rwa [World.size_alloc] at this
 have hD1:W1.heap[w.heap.size]?=some (.deferred (some [])):=by
   rw[←UJ];exact(RowKit.Below.heap_alloc _ _ _ (by simp)).trans (World.alloc_heap_new w _)
 have hb1:bB w0.dr w.heap.size w W1:=by
   rw[←UJ];exact((Below.refl _ w).alloc (aak _) _).alloc (by simp) _
 have hs1:=hs.grow hb1;have hob':=hob.out;obtain⟨vg,hvg,hgn,hgr⟩:=vy (hs1.ev hg) hcal;obtain⟨hcin,hcir⟩:=hci.get;have hI:=hit (w.heap.size+1) rec (by rw[hrec]) (by rw[hrec]) (by rw[hrec];exact hs.size) (by rw[hrec]) (by rw[hrec]) (by rw[hrec]);have hwc:=wC hs1.wok hob' hinj;have hnoL:∀b,w.heap.size≤b→¬owned (fI E ρ) oc0 b:=fun b hb hq=>by
   have:=(hs.wok.bF (eS hob' hq)).2;omega
 refine⟨w.heap.size+1,[{ target:=.collected w.heap.size,args:=#[] }],W1,{ target:=.fn (.func gf) vg.toArray,args:=#[.func (.yield (w.heap.size+1)) #[] #[]] },W1,gf,
   #[.func (.yield (w.heap.size+1)) #[] #[]]++vg.toArray,W1,?_,?_,fun _ _=>trivial,?_,fun hd=>by simp[Fence.wide] at hd,?_⟩
 · rw[←UJ,hrec];exact run_enterLoop_outer _ _ _ _ _
 · simp only [resolve, hvg]
   simp[go_sem,Deferred.ofValue]
 · simp[invoke,go_sem,BY hI.1]
 · have hall := hI.2 (SS w0.dr W1 (fI E ρ) oc0) (Lg M0 (owned E s.o) (owned (fI E ρ) oc0)) (fI E ρ) W1 (.func (.yield (w.heap.size + 1)) #[] #[] :: vg) (fun b hb => ?_) hwc ⟨acK, hnoL _ acK⟩ ZX (by simpa using hgn.trans hcin) (fun j d hd => ?_)
   · refine callsIn_wide.2 ?_
     have e1:(Value.func (.yield (w.heap.size+1)) #[] #[] :: vg).toArray=#[Value.func (.yield (w.heap.size+1)) #[] #[]]++vg.toArray:=by simp
     rw[e1] at hall;refine hall.mono fun e W2 ⟨v,E',he,hw'⟩=>?_
     subst he;obtain⟨E'',h1,_⟩:=hs1.after hnd hob' hinj hsame hbig hpl hw';have hkeep:∀b,b<W1.heap.size→¬owned (fI E ρ) oc0 b→W2.heap[b]?=W1.heap[b]?:=fun b h1 h2=>hw'.below.block b ⟨h1,h2⟩
     have hl2:W2.heap[w.heap.size+1]?=some (.loop rec):=(hkeep _ acK (hnoL _ acK)).trans ZX;have hd2:W2.heap[w.heap.size]?=some (.deferred (some [])):=(hkeep _ acK (hnoL _ (aak _))).trans hD1;refine⟨none,_,by have:=run_endLoop (P:=P) hl2 (by rw[hrec];simp);rw[hrec] at this;exact this,s.after ρ ocN,hq,E'',?_⟩;have hsz0:=hs.wok.below.size;refine⟨h1.size,?_,fun t d ht=>⟨(h1.slots t d ht).1,(h1.slots t d ht).2.pS hl2 (nG _)⟩,h1.wok.pS hl2 (nG _) fun hk=>by have:=w0.hK _ hk;omega⟩;have hm0:=hs.defers;have hm1:=h1.defers;unfold Marks at hm0 hm1 ⊢;rw[hmd] at hm0 hm1 ⊢;obtain⟨Ds,g1,g2,g3⟩:=hm0;obtain⟨Ds',k1,k2,k3⟩:=hm1;obtain rfl:Ds=Ds':=Av (g1.symm.trans k1);refine⟨w.heap.size :: Ds,by rw[aa6,←g1];rfl,aa2.2 ⟨fun D hD=>?_,g2⟩,fun D hD=>?_⟩
     · have:=gu (g3 D hD).2;omega
     · rcases aaC.1 hD with rfl | hD
       · exact⟨hsz0,by rw[World.putObj_heap_other acK];exact hd2⟩
       · have := gu (g3 D hD).2
         exact⟨(g3 D hD).1,by rw[World.putObj_heap_other acK];exact(k3 D hD).2⟩
   · rcases hb with hb | hb
     · have:=aa b hb;have:=hs1.wok.below.size;show b<W1.heap.size;omega
     · exact(hs1.wok.bF hb.1).2
   · cases j with
     | zero =>
       simp only[aaN,aaj] at hd;subst hd;obtain⟨han,har⟩:=hcaps.get;obtain⟨htl,htr⟩:=xA hts;have hcl:cps.length=ts.length:=by have:=han;rw[aai] at this;omega
       refine⟨ts.map fun t=>rec.tmps.getD t undef,⟨rfl,rfl⟩,by rw[aai,hcl],fun j c hc=>?_⟩;obtain⟨sv,hsv,hok⟩:=har j (qI.sv c) (by rw[aap,hc];rfl);have hj:j<ts.length:=by have:=(aaz.1 hc).1;omega
       have h2:(ts.map fun t=>rec.tmps.getD t undef).getD j undef=a.tmps.getD (ts.getD j 0) undef:=by
         rw[aag,aap,aal hj,aag,aal hj,hrec];rfl
       rw[h2];have h3:=xo hs1.wok hob' (hs1.slots _ _ (htr j sv hsv)).2 hok;cases c with
       | bx id=>exact h3
       | pl d=>exact h3
       | ow id=>exact h3
       | om id=>exact h3
     | succ j =>
       rw[abw] at hd;obtain⟨sv,hsv,hok⟩:=hcir j d hd;exact xo hs1.wok hob' (hgr j sv hsv) hok
end
inductive iL (B:Nat):World→World→Prop
 | refl (w:World):iL B w w
 | turn {w w':World}{l:Nat}{x x':Obj}(hB:B≤l)(hl:w.heap[l]?=some x)(hx:ur x)(h:iL B (w.putObj l x') w'):iL B w w'
variable{D:Prop}
section
variable {P:Program} {B:Nat}{w w':World}
theorem iL.rep (h:iL B w w'){d:AV}(hr:bJ w M v d):bJ w' M v d:=by
 induction h with
 | refl w=>exact hr
 | turn hB hl hx _ ih=>exact ih (hr.pS hl hx)
theorem iL.own (h:iL B w w'){e:TypeId}{k:Nat}{xs:List Value}(hr:w.ownsRow 0 e k v n xs):w'.ownsRow 0 e k v n xs:=by
 induction h with
 | refl w=>exact hr
 | turn hB hl hx _ ih=>exact ih (kq hr fun g hg=>World.putObj_heap_other (td hr hg hl hx))
theorem iL.grown (h:iL B w w'):bB D B w w':=by
 induction h with
 | refl w=>exact .refl _ _
 | @turn w w' l x x' hB hl hx _ ih =>
   have h1:bB D B w (w.putObj l x'):=⟨⟨rfl,rfl,rfl,by rw[World.putObj_size];exact aak _,fun k hk=>World.putObj_heap_other acK⟩,fun _=>aak _⟩;exact h1.trans ih
theorem iL.ret (h:iL B w w'){K:Nat→Prop}{r:RV}(hr:iJ P w M K v r):iJ P w' M K v r:=by
 cases r with
 | p d=>exact h.rep hr
 | fresh e xs =>
   obtain⟨vals,⟨h1,h2⟩,h3,h4⟩:=hr;exact⟨vals,⟨h.own h1,h2⟩,h3,fun j d hd=>⟨(h4 j d hd).1,h.rep (h4 j d hd).2⟩⟩
theorem te {fn:Func}{tmps:Array Value}{R:Ending→World→Prop}:∀(Ds:List Nat)(w:World),Ds.Pairwise (·≠·)→(∀D∈Ds,B≤D∧w.heap[D]?=some (.deferred (some []))) →
   (∀w4,iL B w w4→∃v,(results fn tmps).run P w4=.ok v w4∧R (.returned v) w4)→LeavesInM Fence.wide 0 P fn tmps R (Ds.map fun D=>{ target:=.collected D,args:=#[] }) .returning w
 | [],w,_,_,h=>h w (.refl w)
 | D :: Ds, w, hp, hd, h => by
   have hp':=aa2.1 hp;have hD:=hd D aaq;refine⟨by simp,.inl ⟨D,_,rfl,run_takeDeferred hD.2,te Ds _ hp'.2 (fun D' hD'=>⟨(hd D' (aav _ hD')).1,?_⟩) fun w4 h4=>h w4 (.turn hD.1 hD.2 (BV _) h4)⟩⟩;rw[World.putObj_heap_other fun e=>hp'.1 D' hD' e.symm];exact(hd D' (aav _ hD')).2
abbrev Fr.allM (D:Prop)(w:World):Fr:={ Fr.Pv D w with md:=.marks }
theorem Ma {M0:Nat→Prop}:gr P (Fr.allM D w) M0 ⟨fun _=>undef,fun _=>0,fun _ _=>undef⟩ [] w :=
 ⟨fun id ob ho=>by simp at ho,fun id ob id' ob' b ho=>by simp at ho,.refl _ _,fun x hx=>by cases hx⟩
theorem pU {M0:Nat→Prop}{fn:Func}(hf:P.funcs[f]?=some fn)(hb:fn.body=some c)(hnt:fn.ntmps=n){R:Value→World→Prop}(hn:args.length≤n)(vs:List Value)(hv:vs.length=args.length)
  (hr:∀(j:Nat) d,args[j]?=some d→bm P M0 w ⟨fun _=>undef,fun _=>0,fun _ _=>undef⟩ [] (vs.getD j undef) d)
  (h:ao P (Fr.allM D w) M0 c (St.fG n args []) Q)
  (hQ:∀e s' a' w' E',Q e s'→ba P (Fr.allM D w) M0 E' s' a' w'→(e=.normal∨e=.ret)∧∀w4,iL w.heap.size w' w4→∃v,(results fn a'.tmps).run P w4=.ok v w4∧R v w4) :
  Calls P f vs.toArray w fun e w'=>∃v,e=.returned v∧R v w':=by
 have hE:ba P (Fr.allM D w) M0 ⟨fun _=>undef,fun _=>0,fun _ _=>undef⟩ (St.fG n args []) { tmps:=vs.toArray++Array.replicate (fn.ntmps-vs.toArray.size) undef,defers:=[] } w:=by
  refine⟨by simp[St.fG,hnt];omega,.nil J,fun t d ht=>?_,Ma⟩;obtain⟨_,he⟩:=kG args 0 t d ht;rw[ab7] at he;have hlt:t<args.length:=(aaz.1 he).1;refine⟨by simp[St.fG];omega,?_⟩;have:=hr t d he;have hget:(vs.toArray++Array.replicate (fn.ntmps-vs.toArray.size) undef).getD t undef=vs.getD t undef:=by
   rw[aaL,abS (by simp;omega),aag];simp
  rw[hget];exact this
 refine callsIn_wide.1 (callsIn_of_wp_marks (n:=0) hf hb trivial (wpIn_wide.2 (wp_mono (show Code.wp P c _ _ _ from h _ _ ⟨_,hE⟩) fun e a' w' ⟨s',hq,E',hs⟩=>?_)) J);obtain⟨he,hR⟩:=hQ e s' a' w' E' hq hs;have hm:=hs.defers;obtain⟨Ds,g1,g2,g3⟩:=(show ∃Ds:List Nat,a'.defers=Ds.map (fun D=>{ target:=.collected D,args:=#[] })∧Ds.Pairwise (·≠·)∧∀D∈Ds,w.heap.size≤D∧w'.heap[D]?=some (.deferred (some [])) from hm);have fin:LeavesInM Fence.wide 0 P fn a'.tmps (fun e w'=>∃v,e=.returned v∧R v w') a'.defers .returning w':=by
  rw[g1];exact te (B:=w.heap.size) Ds w' g2 g3 fun w4 h4=>let⟨v,h5,h6⟩:=hR w4 h4;⟨v,h5,v,rfl,h6⟩
 rcases he with rfl|rfl
 ·exact fin
 ·exact fin
theorem xC (hf:HO P f n t c){ds:List AV}{r:RV}(hn:ds.length≤n)
   (h:∀(w0:Fr)(M0:Nat→Prop),(∀b,M0 b→b<w0.w.heap.size)→w0.md=.marks→ao P w0 M0 c (St.enter n .mx ds) (zC t r)):ak P f ds r:=by
 refine⟨hf.bu,fun w vs hv hr=>?_⟩;have h0:=h (Fr.allM True w) (fun b=>b<w.heap.size) (fun b hb=>hb) rfl;rw[eU] at h0;obtain⟨fn,h1,h2,h3,h4,h5⟩:=hf;refine pU h1 h2 h3 (R:=fun v w'=>Below w.heap.size w w'∧iJ P w' (fun b=>b<w.heap.size) (fun b=>b<w.heap.size) v r) (by simpa using hn) vs (by simpa using hv) (fun j d hd=>?_) h0 (fun e s' a' w' E' hq hs=>?_)
 · rw [aap, aao] at hd
   obtain⟨a,ha,rfl⟩:=hd;have:=hr j a ha;simp only[bm,ei];exact this
 · have fin : (s'.s.lookup t).bind (bR s'.o) = some r → ∀ w4, iL w.heap.size w' w4 → ∃ v, (results fn a'.tmps).run P w4 = .ok v w4 ∧ Below w.heap.size w w4 ∧ iJ P w4 (fun b => b < w.heap.size) (fun b => b < w.heap.size) v r := fun hx w4 hd => by
     refine⟨a'.tmps.getD t undef,by simp[results,h4],bB.trans hs.wok.below.below hd.grown,hd.ret ?_⟩;cases hl:s'.s.lookup t with
     | none=>rw[hl] at hx;cases hx
     | some sv =>
       rw[hl] at hx;exact dY hs.wok (hs.slots t sv hl).2 hx
   cases e with
   | normal=>exact⟨.inl rfl,fin hq⟩
   | ret=>exact⟨.inr rfl,fin hq⟩
   | exit _=>exact hq.elim
   | goto _=>exact hq.elim
   | panic _=>exact hq.elim
   | outgrown=>exact hq.elim
end
end Go.Am
