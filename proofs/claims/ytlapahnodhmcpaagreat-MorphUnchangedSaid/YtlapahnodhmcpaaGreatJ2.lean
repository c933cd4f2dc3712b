/-
  Part of the proof.
-/
import Derived.Test.YtlapahnodhmcpaaGreatJ0
import Derived.Test.YtlapahnodhmcpaaGreatJ1
import Derived.LoopN
set_option linter.unusedVariables false
set_option linter.unusedSectionVars false
set_option linter.unusedSimpArgs false
set_option maxRecDepth 100000
set_option maxHeartbeats 40000000
namespace Go.Am
open Go.RowKit
variable{E:Env}{a:Act}{w:World}{t id f n:Nat}{r:RV}{ds:List AV}
section
variable {P:Program} {w0:Fr}{M0:Nat→Prop}
def guardOf (ops:Array Oper)(ρ:Operand→Option SV)(o:Oper):Option Bool :=
 match o.guard with
 | none=>some true
 | some (j, want) => match (ops[j]?).bind (·.dst) with
   | none=>none
   | some t => match ρ (.tmp t) with
     | some (.v _ (.sc (.bool b)))=>some (b == want)
     | some (.v _ (.tup []))=>some false
     | _=>none
theorem ba.Lw {s:St}(h:ba P w0 M0 E s a w){d:SV}(ht:s.s.lookup t=some d):a.tmps[t]?=some (a.tmps.getD t undef):=by have h1:=(h.slots t d ht).1;have h2:=h.size;rw[aaL,aaM acK];rfl
theorem xi {ops:Array Oper}{s:St}(h:ba P w0 M0 E s a w){o:Oper}{g:Bool}(hg:guardOf ops s.ev o=some g) :
   Region.wanted o (yielded ops a.tmps)=g:=by
 unfold guardOf at hg;unfold Region.wanted;split at hg
 · rename_i h0
   simp only[aaj] at hg;simp[h0,hg]
 · rename_i j want h0
   simp only[h0];split at hg
   · cases hg
   · rename_i t ht
     split at hg
     · rename_i c b hb
       simp only[aaj] at hg;subst hg;have h1:=(h.slots t _ hb).2;simp only[bm] at h1;have h2:=h.Lw hb;have h3:a.tmps.getD t undef=.bool b:=by generalize a.tmps.getD t undef=z at h1;cases h1;rfl
       rw[h3] at h2;simp only[yielded,ht,abO,h2];cases b<;>cases want<;>rfl
     · rename_i c hb
       simp only[aaj] at hg;subst hg;have h1:=(h.slots t _ hb).2;simp only[bm] at h1;have h2:=h.Lw hb;have h3:∃vs,a.tmps.getD t undef=.tuple vs:=by
         generalize a.tmps.getD t undef=z at h1;cases h1;exact⟨_,rfl⟩
       obtain⟨vs,h3⟩:=h3;rw[h3] at h2;simp only[yielded,ht,abO,h2];cases want<;>rfl
     · cases hg
def fF (P:Program)(w0:Fr)(M0:Nat→Prop)(s s':St):Prop:=∀a w,pE P w0 M0 s a w→pE P w0 M0 s' a w
theorem fF.refl (s:St):fF P w0 M0 s s:=fun _ _ h=>h
theorem fF.trans {s s' s'':St}(h:fF P w0 M0 s s')(h':fF P w0 M0 s' s''):fF P w0 M0 s s'':=fun a w hs=>h' a w (h a w hs)
def vq (P:Program)(w0:Fr)(M0:Nat→Prop)(ops:Array Oper)(l:List Nat)(s:St)(Q:St→Prop):Prop :=
 ∀a w,pE P w0 M0 s a w→wpOps P ops (fun e a' w'=>e=.normal∧∃s',Q s'∧pE P w0 M0 s' a' w') l a w
def ao (P:Program)(w0:Fr)(M0:Nat→Prop)(c:Code)(s:St)(Q:Exit→St→Prop):Prop :=
 ∀a w,pE P w0 M0 s a w→wb P w0.md c (fun e a' w'=>∃s',Q e s'∧pE P w0 M0 s' a' w') a w
theorem sS {Q:St→Prop}:∀l,w0.md=.round l→Calm (fun e a' w'=>e=.normal∧∃s',Q s'∧pE P w0 M0 s' a' w'):=fun l hl=>⟨fun e a w h=>h.1,fun e a w ⟨_,s',_,E,hs⟩=>by have h:=hs.defers;unfold Marks at h;rw[hl] at h;exact h⟩
section ops
variable {ops:Array Oper}{l:List Nat}{s s':St}{Q:St→Prop}{i:Nat}{o:Oper}
theorem HN (h:Q s):vq P w0 M0 ops [] s Q:=fun a w hs=>⟨rfl,s,h,hs⟩
theorem Dl (hi:ops[i]?=some o)(hg:guardOf ops s.ev o=some true)(h:Step P w0 M0 o s s')(hr:vq P w0 M0 ops l s' Q):vq P w0 M0 ops (i :: l) s Q:=by intro a w hs;obtain⟨E,hE⟩:=hs;simp only[wpOps,hi,xi hE hg,if_true];exact .inl (Oper.wp_mono (fun a' w' h'=>hr a' w' h') (h a w _ ⟨E,hE⟩))
theorem Dm {ob:List (Nat×Ob)}:bm P M0 w E ob undef (.v .pl (.tup [])):=.tup [] [] rfl (fun j d hd=>by simp at hd)
theorem Dn (hi:ops[i]?=some o)(hg:guardOf ops s.ev o=some false)(ht:o.dst=some t)(hn:t<s.n)(hr:vq P w0 M0 ops l (s.put t (.v .pl (.tup []))) Q) :
  vq P w0 M0 ops (i :: l) s Q:=by
 intro a w hs;obtain⟨E,hE⟩:=hs;simp only[wpOps,hi,xi hE hg,acf,if_false,ht];exact hr _ _ ⟨E,hE.put hn Dm⟩
end ops
section code
variable {c x y:Code}{s s':St}{Q:Exit→St→Prop}
theorem ao.imp (hi:fF P w0 M0 s s')(h:ao P w0 M0 c s' Q):ao P w0 M0 c s Q:=fun a w hs=>h a w (hi a w hs)
theorem ao.mono {Q':Exit→St→Prop}(h:ao P w0 M0 c s Q)(hq:∀e s',Q e s'→Q' e s'):ao P w0 M0 c s Q' :=
 fun a w hs=>iT (h a w hs) fun e a' w' ⟨s',h1,h2⟩=>⟨s',hq _ _ h1,h2⟩
theorem Ji (h:Q .normal s):ao P w0 M0 .skip s Q:=fun a w hs=>Lu ⟨s,h,hs⟩
theorem Lx (h:Q .ret s):ao P w0 M0 .ret s Q:=fun a w hs=>Px ⟨s,h,hs⟩
theorem Jj (h:Q (.exit id) s):ao P w0 M0 (.exit id) s Q:=fun a w hs=>Lv ⟨s,h,hs⟩
def Pz (P:Program)(w0:Fr)(M0:Nat→Prop)(y:Code)(Q:Exit→St→Prop):Exit→St→Prop
 | .normal,s=>ao P w0 M0 y s Q
 | e,s=>Q e s
theorem Dp (h:ao P w0 M0 x s (Pz P w0 M0 y Q)):ao P w0 M0 (.seq x y) s Q:=by intro a w hs;refine Py (iT (h a w hs) fun e a' w' ⟨s',h1,h2⟩=>?_);cases e<;>simp only[Exit.then,Pz] at h1 ⊢<;>first|exact h1 _ _ h2|exact⟨s',h1,h2⟩
def rY (id:Nat)(Q:Exit→St→Prop):Exit→St→Prop
 | .exit i,s=>if i=id then Q .normal s else Q (.exit i) s
 | e,s=>Q e s
theorem F3 (h:ao P w0 M0 c s (rY id Q)):ao P w0 M0 (.block id c) s Q:=by intro a w hs;refine Jh (iT (h a w hs) fun e a' w' ⟨s',h1,h2⟩=>?_);cases e<;>simp only[Exit.inBlock,rY] at h1 ⊢<;>first|exact⟨s',h1,h2⟩|(split at h1<;>simp_all<;>exact⟨s',h1,h2⟩)
theorem Af {b:Bool}(hb:aZ s.ev (.tmp t)=some (.bool b))(ht:b=true→ao P w0 M0 x s Q)(hf:b=false→ao P w0 M0 y s Q) :
  ao P w0 M0 (.cond (.tmp t) x y) s Q:=by
 rintro a w ⟨E,hs⟩;have hv:a.eval (.tmp t)=.bool b:=bK (ρ:=s.ev) (x:=.tmp t) (ob:=s.o) (ev:=a.eval) (fun x e hx=>hs.ev hx) hb;cases b
 ·exact xh hv (hf rfl a w ⟨E,hs⟩)
 ·exact zy hv (ht rfl a w ⟨E,hs⟩)
theorem Dq {ops:Array Oper}(l:List Nat)(hl:List.range ops.size=l)(h:vq P w0 M0 ops l s (Q .normal)):ao P w0 M0 (.region id ops false) s Q:=by
 intro a w hs;subst hl;refine iT (F1 sS (h a w hs)) fun e a' w' ⟨he,s',h1,h2⟩=>?_
 subst he;exact⟨s',h1,h2⟩
end code
theorem eO {s s':St}(hn:s'.n=s.n)(ho:s'.o=s.o)(h:∀t d,s'.s.lookup t=some d→s.s.lookup t=some d):fF P w0 M0 s s':=by rintro a w ⟨E,hs⟩;obtain⟨n',sl',o'⟩:=s';simp only at hn ho h;subst hn;subst ho;exact⟨E,hs.size,hs.defers,fun t d ht=>hs.slots t d (h t d ht),hs.wok⟩
theorem zB {α:Type} (f:Nat→Bool) (l:List (Nat×α)) (t:Nat) (d:α) (h:(l.filter (fun p=>f p.1)).lookup t=some d):l.lookup t=some d:=by
 induction l with
 | nil=>simp at h
 | cons p r ih =>
   obtain⟨u,e⟩:=p;rw[abb] at h;rw[aj];split at h
   · rw [aj] at h
     split at h
     · rename_i h1;rw[if_pos h1];exact h
     · rename_i h1;rw[if_neg h1];exact ih h
   · rename_i hf
     have:=ih h;by_cases h1:t=u
     · exfalso
       subst h1
       -- t is filtered out everywhere
       have:∀r:List (Nat×α),(r.filter (fun p=>f p.1)).lookup t=none:=by
         intro r
         induction r with
         | nil=>rfl
         | cons q r ihr =>
           obtain⟨x,y⟩:=q;rw[abb];split
           · rename_i hx
             rw[aj];split
             · rename_i he;subst he;exact absurd hx hf
             · exact ihr
           · exact ihr
       rw[this] at h;cases h
     · rw[if_neg h1];exact this
def St.fG (n:Nat)(ds:List SV)(o:List (Nat×Ob)):St:={ n:=n,s:=ds.zipIdx.map (fun p=>(p.2,p.1)),o:=o }
theorem kG (ds:List SV):∀(k t:Nat)(d:SV),((ds.zipIdx k).map (fun p=>(p.2,p.1))).lookup t=some d→k≤t∧ds[t-k]?=some d:=by
 induction ds with
 | nil=>intro k t d h;simp at h
 | cons x r ih =>
   intro k t d h;rw[List.zipIdx_cons,aa6,aj] at h;split at h
   · rename_i he
     simp only at he;subst he;simp only[aaj] at h;exact⟨aak _,by simp[h]⟩
   · obtain ⟨h1, h2⟩ := ih (k + 1) t d h
     refine⟨acK,?_⟩;have:t-k=(t-(k+1))+1:=acK;rw[this,abw];exact h2
def St.enter (n:Nat)(c:fW)(ds:List AV):St:={ n:=n,s:=ds.zipIdx.map (fun p=>(p.2,.v c p.1)),o:=[] }
theorem eU (n:Nat)(c:fW)(ds:List AV):St.enter n c ds=St.fG n (ds.map (.v c)) []:=by
 unfold St.enter St.fG
 congr 1
 have:∀k,(ds.zipIdx k).map (fun p=>(p.2,SV.v c p.1))=((ds.map (SV.v c)).zipIdx k).map (fun p=>(p.2,p.1)):=by
  induction ds with
  | nil=>intro k;rfl
  | cons x r ih=>intro k;rw[List.zipIdx_cons,aa6,aa6,List.zipIdx_cons,aa6,ih]
 exact this 0
def bR (ob:List (Nat×Ob)):SV→Option RV
 | .v .pl (.sc (.slice none 0 0))=>some (.p (.sl []))
 | .v .pl d=>some (.p d)
 | .v _ (.sc u)=>some (.p (.sc u))
 | .own id => match ob.lookup id with
   | some (.arr e xs)=>some (.fresh e xs)
   | _=>none
 | .omap id => match ob.lookup id with
   | some (.mp ks vs)=>some (.p (.mp ks vs))
   | _=>none
 | _=>none
theorem dY {ob:List (Nat×Ob)}{v:Value}{s:SV}(hw:gr P w0 M0 E ob w)(h:bm P M0 w E ob v s)(hr:bR ob s=some r):iJ P w M0 w0.K v r:=by
 unfold bR at hr;split at hr
 ·simp only[aaj] at hr;subst hr;cases h;exact .sl none 0 0 [] 0 (fun _=>undef) J (aak _) (by simp) (fun h=>absurd h acK) (fun j d hd=>by simp[flat] at hd) (fun j d hd=>by simp[flat] at hd)
 ·simp only[aaj] at hr;subst hr;exact bJ.cd h (fun b hb=>.inl hb)
 ·simp only[aaj] at hr;subst hr;cases h;exact .sc _ ‹_›
 ·rename_i id;split at hr
  ·rename_i e xs hl;simp only[aaj] at hr;subst hr;rw[h e xs hl];obtain⟨vals,h1,h2,h3⟩:=hw.objs id _ hl;refine⟨vals,⟨h1.1,fun b hb=>(h1.2 b hb).1⟩,h2,fun j d hd=>⟨(h3 j d hd).1,(h3 j d hd).2.cd fun b hb=>?_⟩⟩;rcases hb with hb|hb
   ·exact .inl hb
   ·exact .inr ⟨id,_,hl,hb⟩
  ·cases hr
 ·rename_i id;split at hr
  ·rename_i ks vs hl;simp only[aaj] at hr;subst hr;rw[h ks vs hl];have hlt:=((hw.objs id _ hl).dx rfl).2;obtain⟨es,clock,h1,h2,h3,h4,h5⟩:=hw.objs id _ hl;exact .mp _ es clock ks vs h2.2 hlt h1 h3 h4 fun j d hd=>(h5 j d hd).cd fun b hb=>.inl hb
  ·cases hr
 ·cases hr
def HO (P : Program) (f : FuncId) (n t : Nat) (c : Code) : Prop := ∃ fn, P.funcs[f]? = some fn ∧ fn.body = some c ∧ fn.ntmps = n ∧ fn.results = #[.tmp t] ∧ (fn.name == "runtime.NumGoroutine") = false
theorem HO.bu {c:Code}(h:HO P f n t c):cg P f:=by obtain⟨fn,h1,h2,_,_,h5⟩:=h;exact⟨fn,h1,h5,by rw[h2];rfl⟩
def zC (t:Nat)(r:RV):Exit→St→Prop
 | .normal,s|.ret,s=>(s.s.lookup t).bind (bR s.o)=some r
 | _,_=>False
theorem kT.HP {w0:Fr}(r r':Md){o:List (Nat×Ob)}{ob:Ob}(h:kT P { w0 with md:=r } M0 w E o id ob):kT P { w0 with md:=r' } M0 w E o id ob:=by
 cases ob with
 | arr e xs=>exact h
 | box e cs=>exact h
 | mp ks vs=>exact h
 | nar e cs ln =>
   obtain⟨n,vals,h1,h2,h3,h4,h5⟩:=h;exact⟨n,vals,h1,h2,h3,h4.go (np.refl _ _) (fun _ _=>rfl) (fun _ _ h=>h) (fun _ _ h=>h),h5⟩
 | nmp ks cs ln =>
   obtain⟨es,clock,h1,h2,h3,h4,h5,h6,h7⟩:=h;exact⟨es,clock,h1,h2,h3,h4,h5,h6.go (np.refl _ _) (fun _ _=>rfl) (fun _ _ h=>h) (fun _ _ h=>h),h7⟩
theorem gr.HP {w0:Fr}(r r':Md){o:List (Nat×Ob)}(h:gr P { w0 with md:=r } M0 E o w):gr P { w0 with md:=r' } M0 E o w :=
 ⟨fun id ob ho=>(h.objs id ob ho).HP r r',h.disj,h.below,h.pins⟩
theorem gr.plain {o:List (Nat×Ob)}(h:gr P w0 M0 E o w):gr P w0.plain M0 E o w:=gr.HP (w0:=w0) w0.md .plain h
theorem gr.wz {o:List (Nat×Ob)}(h:gr P w0.plain M0 E o w):gr P w0 M0 E o w:=gr.HP (w0:=w0) .plain w0.md h
theorem ba.wz {s:St}(h:ba P w0.plain M0 E s a w):ba P w0 M0 E s a w:=⟨h.size,.nil h.defers,h.slots,h.wok.wz⟩
theorem F4 {c:Code}(hf:HO P f n t c){args:List SV}{o:List (Nat×Ob)}{R:St→Prop}{Q:Exit→St→Prop}(hn:args.length≤n)(vs:List Value)(hv:vs.length=args.length)
  (hw:gr P w0 M0 E o w)(hr:∀(j:Nat) d,args[j]?=some d→bm P M0 w E o (vs.getD j undef) d)
  (h:ao P w0.plain M0 c (St.fG n args o) Q)(hQ:∀e s',Q e s'→(e=.normal∨e=.ret)∧R s') :
  Calls P f vs.toArray w fun e w'=>∃v E' s',e=.returned v∧R s'∧gr P w0 M0 E' s'.o w'∧∀d,s'.s.lookup t=some d→bm P M0 w' E' s'.o v d:=by
 obtain⟨fn,h1,h2,h3,h4,h5⟩:=hf;have hE:ba P w0.plain M0 E (St.fG n args o) { tmps:=vs.toArray++Array.replicate (fn.ntmps-vs.toArray.size) undef,defers:=[] } w:=by
  refine⟨by simp[St.fG,h3];omega,rfl,fun t d ht=>?_,hw.plain⟩;obtain⟨_,he⟩:=kG args 0 t d ht;rw[ab7] at he;have hlt:t<args.length:=(aaz.1 he).1;refine⟨by simp[St.fG];omega,?_⟩;have:=hr t d he;have hget:(vs.toArray++Array.replicate (fn.ntmps-vs.toArray.size) undef).getD t undef=vs.getD t undef:=by
   rw[aaL,abS (by simp;omega),aag];simp
  rw[hget];exact this
 refine calls_of_wp h1 h2 (wp_mono (show Code.wp P c _ _ _ from h _ _ ⟨_,hE⟩) fun e a' w' ⟨s',hq,E',hs⟩=>?_);have hdf:a'.defers=[]:=hs.defers;have hs:=hs.wz;obtain⟨he,hR⟩:=hQ e s' hq;have fin:a'.defers=[]∧∃v,(results fn a'.tmps).run P w'=.ok v w'∧∃v_1 E'_1 s'_1,Ending.returned v=Ending.returned v_1∧R s'_1∧gr P w0 M0 E'_1 s'_1.o w'∧∀d,s'_1.s.lookup t=some d→bm P M0 w' E'_1 s'_1.o v_1 d :=
  ⟨hdf,a'.tmps.getD t undef,by simp[results,h4],_,E',s',rfl,hR,hs.wok,fun d hd=>(hs.slots t d hd).2⟩
 rcases he with rfl|rfl
 ·exact fin
 ·exact fin
theorem jP {D:Prop}:gr P (Fr.Pv D w) M0 ⟨fun _=>undef,fun _=>0,fun _ _=>undef⟩ [] w :=
 ⟨fun id ob ho=>by simp at ho,fun id ob id' ob' b ho=>by simp at ho,.refl _ _,fun x hx=>by cases hx⟩
theorem ei :owned E []=fun _=>False:=by
 funext b;apply propext;constructor
 ·rintro⟨id,ob,h,_⟩;simp at h
 ·intro h;exact h.elim
theorem rF {D:Prop}{c:Code}(hf:HO P f n t c){cl:fW}(hn:ds.length≤n)(vs:List Value)(hv:vs.length=ds.length)
   (hr:∀(j:Nat) d,ds[j]?=some d→bJ w (cB M0 (fun _=>False) cl) (vs.getD j undef) d)
   (h:ao P (Fr.Pv D w) M0 c (St.enter n cl ds) (zC t r)) :
   Calls P f vs.toArray w fun e w'=>∃v,e=.returned v∧bB D w.heap.size w w'∧iJ P w' M0 (fun b=>b<w.heap.size) v r:=by
 rw[eU] at h;refine(F4 (R:=fun s'=>(s'.s.lookup t).bind (bR s'.o)=some r) hf (by simpa using hn) vs (by simpa using hv) jP (fun j d hd=>?_) h (fun e s' hq=>?_)).mono fun e w' ⟨v,E',s',he,hR,hw,hsv⟩=>?_
 · rw [aap, aao] at hd
   obtain⟨a,ha,rfl⟩:=hd;have:=hr j a ha;simp only[bm,ei];exact this
 · cases e with
   | normal=>exact⟨.inl rfl,hq⟩
   | ret=>exact⟨.inr rfl,hq⟩
   | exit _=>exact hq.elim
   | goto _=>exact hq.elim
   | panic _=>exact hq.elim
   | outgrown=>exact hq.elim
 · refine ⟨v, he, hw.below.below, ?_⟩
   cases hl:s'.s.lookup t with
   | none=>rw[hl] at hR;cases hR
   | some sv =>
     rw[hl] at hR;exact dY hw (hsv sv hl) hR
theorem zD {c:Code}(hf:HO P f n t c)(hn:ds.length≤n)
  (h:∀(w0:Fr)(M0:Nat→Prop),(∀b,M0 b→b<w0.w.heap.size)→ao P w0 M0 c (St.enter n .mx ds) (zC t r)):ak P f ds r :=
 ⟨hf.bu,fun w vs hv hr=>rF (cl:=.mx) hf hn vs hv (fun j d hd=>hr j d hd) (h (Fr.all w) (fun b=>b<w.heap.size) (fun b hb=>hb))⟩
theorem zE {c:Code}(hf:HO P f n t c)(hn:ds.length≤n)
  (h:∀(w0:Fr)(M0:Nat→Prop),(∀b,M0 b→b<w0.w.heap.size)→ao P w0 M0 c (St.enter n .pl ds) (zC t r)):aU P f ds r :=
 ⟨hf.bu,fun w M vs hM hv hr=>rF (cl:=.pl) hf hn vs hv (fun j d hd=>(hr j d hd).cd (fun b hb=>Or.elim hb id (fun h=>False.elim h))) (h (Fr.all w) M hM)⟩
end
open Go.RowKit
def looks (ops:Array Oper)(o:Oper):List Nat:=o.looksAt ops
def gd (o:Oper):List Nat:=(o.after.toList.filter (Region.binds .any ·)).map (·.on)
def kV (ops:Array Oper):Nat→Nat→List Nat
 | 0,_=>[]
 | n + 1, i => match ops[i]? with
   | some o=>gd o++(gd o).flatMap (kV ops n)
   | none=>[]
def l7 (ops : Array Oper) : Bool :=
 Region.noSelect ops&&(List.range ops.size).all fun i=>match ops[i]? with
   | none=>false
   | some o => (gd o).all (fun j => Nat.blt j i) &&
     (List.range ops.size).all fun j=>match ops[j]? with
       | none=>false
       | some p=>Nat.beq i j||((match o.dst,p.dst with|some t,some u=>!(Nat.beq t u)|_,_=>true) &&
           (match p.dst with|some u=>!(looks ops o).contains u||((gd o).contains j&&Nat.blt j i)||((gd p).contains i&&Nat.blt i j)|none=>true))
def pG (ops:Array Oper)(i:Nat):Bool:=(List.range ops.size).all fun q=>Nat.blt q i||(List.range q).all fun j=>(kV ops ops.size q).contains j
def fz (ops:Array Oper)(i:Nat):Bool:=(List.range ops.size).all fun q=>Nat.blt q i||(List.range i).all fun j=>(kV ops ops.size q).contains j
theorem zF {ops:Array Oper}{i:Nat}(h:pG ops i=true):fz ops i=true:=by
 unfold pG at h;unfold fz;rw[aaF] at h ⊢;intro q hq;have:=h q hq;rw[aba] at this ⊢;rcases this with h1|h1
 ·exact .inl h1
 ·by_cases hqi:q<i
  ·exact .inl (by simpa using hqi)
  ·refine .inr ?_;rw[aaF] at h1 ⊢;exact fun j hj=>h1 j (aaI.2 (by have:=aaI.1 hj;omega))
def fq (ops:Array Oper)(o:Oper)(ρ:Operand→Option SV):Operand→Option SV
 | .tmp t=>if(looks ops o).contains t then ρ (.tmp t) else none
 | x=>ρ x
variable{j:Nat}
section
variable {P:Program} {w0:Fr}{M0:Nat→Prop}
def l8 (P:Program)(w0:Fr)(M0:Nat→Prop)(Q:St→Prop):List Oper→St→Prop
 | [],s=>Q s
 | o :: rest,s=>o.guard=none∧∃s',Step P w0 M0 o s s'∧l8 P w0 M0 Q rest s'
theorem l8.mono {Q Q':St→Prop}(h:∀s,Q s→Q' s):∀{l:List Oper}{s:St},l8 P w0 M0 Q l s→l8 P w0 M0 Q' l s
 | [],s,ht=>h s ht
 | o :: r,s,⟨h1,s',h2,h3⟩=>⟨h1,s',h2,l8.mono h h3⟩
def rZ (P:Program)(w0:Fr)(M0:Nat→Prop)(ops:Array Oper)(Q:St→Prop)(m:Nat)(s:St):Prop :=
 ∀ (fuel : Nat) (L : Array Bool) (a : Act) (w : World), L.size = ops.size → (∀ j, j < ops.size → (L.getD j false = true ↔ j < m)) → pE P w0 M0 s a w → ops.size - m ≤ fuel →
   wpAny P .any ops (fun e a' w'=>e=.normal∧∃s',Q s'∧pE P w0 M0 s' a' w') fuel L a w
def HQ (P:Program)(w0:Fr)(M0:Nat→Prop)(ops:Array Oper)(Q:St→Prop):List Oper→Nat→St→Prop
 | [],_,s=>Q s
 | o :: rest, i, s =>
   (∃t,o.dst=some t∧t<s.n∧∃g,guardOf ops s.ev o=some g∧∃d,(g=true→Pure P w0 M0 o (fq ops o s.ev) s.o d)∧(g=false→d=.v .pl (.tup []))∧HQ P w0 M0 ops Q rest (i+1) (s.put t d)) ∨
   (pG ops i=true∧l8 P w0 M0 Q (o :: rest) s)∨(fz ops i=true∧rZ P w0 M0 ops Q i s)
variable {ops:Array Oper}{Q:St→Prop}
structure UC (P:Program)(w0:Fr)(M0:Nat→Prop)(ops:Array Oper)(k i:Nat)(S:Nat→St)(T:Nat→Nat)(D:Nat→SV):Prop where
 next:∀j,i≤j→j<k→S (j+1)=(S j).put (T j) (D j)
 op:∀j,i≤j→j<k→∃o,ops[j]?=some o∧o.dst=some (T j)∧T j<(S j).n∧∃g,guardOf ops (S j).ev o=some g∧(g=true→Pure P w0 M0 o (fq ops o (S j).ev) (S j).o (D j))∧(g=false→D j=.v .pl (.tup []))
theorem sT:∀ (l:List Oper)(i:Nat)(s:St),(∀j,l[j]?=ops[i+j]?)→HQ P w0 M0 ops Q l i s →
   ∃ (k : Nat) (S : Nat → St) (T : Nat → Nat) (D : Nat → SV), i ≤ k ∧ S i = s ∧ UC P w0 M0 ops k i S T D ∧
     ((k=i+l.length∧Q (S k))∨(k<i+l.length∧((pG ops k=true∧l8 P w0 M0 Q (l.drop (k-i)) (S k))∨(fz ops k=true∧rZ P w0 M0 ops Q k (S k)))))
 | [],i,s,_,h=>⟨i,fun _=>s,fun _=>0,fun _=>.dead,aak _,rfl,⟨fun j h1 h2=>acK,fun j h1 h2=>acK⟩,.inl ⟨by simp,h⟩⟩
 | o :: rest, i, s, hl, h => by
   have hoi:ops[i]?=some o:=by have:=hl 0;simpa using this.symm
   rcases h with⟨t,ht,hn,g,hg,d,h1,h0,h⟩|⟨htl,hq⟩|⟨htl,hq⟩
   · obtain ⟨k, S, T, D, hik, hS, hR, hend⟩ := sT rest (i + 1) (s.put t d) (fun j => by have := hl (j + 1); rw [abw] at this; rw [this]; congr 1; omega) h
     refine⟨k,fun j=>if j=i then s else S j,fun j=>if j=i then t else T j,fun j=>if j=i then d else D j,acK,by simp,⟨fun j h1 h2=>?_,fun j h1' h2=>?_⟩,?_⟩
     · by_cases hj : j = i
       · subst hj;simp[hS]
       · have e1 : j + 1 ≠ i := acK
         simp only[hj,e1,if_false];exact hR.next j acK h2
     · by_cases hj : j = i
       · subst hj
         simp only[if_true];exact⟨o,hoi,ht,hn,g,hg,h1,h0⟩
       · simp only [hj, if_false]
         exact hR.op j acK h2
     · have hki : k ≠ i := acK
       simp only[hki,if_false];rcases hend with⟨hk,hq⟩|⟨hk,hrest⟩
       · exact .inl ⟨by simp;omega,hq⟩
       · refine .inr ⟨by simp; omega, ?_⟩
         rcases hrest with hrest|hrest
         · refine .inl ⟨hrest.1, ?_⟩
           have e1:k-i=(k-(i+1))+1:=acK;rw[e1,List.drop_succ_cons];exact hrest.2
         · exact .inr hrest
   · exact⟨i,fun _=>s,fun _=>0,fun _=>.dead,aak _,rfl,⟨fun j h1 h2=>acK,fun j h1 h2=>acK⟩,.inr ⟨by simp,.inl ⟨htl,by rw[ach];exact hq⟩⟩⟩
   · exact⟨i,fun _=>s,fun _=>0,fun _=>.dead,aak _,rfl,⟨fun j h1 h2=>acK,fun j h1 h2=>acK⟩,.inr ⟨by simp,.inr ⟨htl,hq⟩⟩⟩
theorem mM (h:l7 ops=true):Region.noSelect ops=true∧∀i o,ops[i]?=some o→(∀j∈gd o,j<i) ∧
   ∀ j p, ops[j]? = some p → i ≠ j → (∀ t u, o.dst = some t → p.dst = some u → t ≠ u) ∧
     ∀u,p.dst=some u→u∈looks ops o→(j∈gd o∧j<i)∨(i∈gd p∧i<j):=by
 unfold l7 at h;rw[aax,aaF] at h;refine⟨h.1,fun i o ho=>?_⟩;have hi:=h.2 i (aaI.2 (aaV.1 ho).1);simp only[ho,aax,aaF] at hi;refine⟨fun j hj=>by simpa using hi.1 j hj,fun j p hp hij=>?_⟩;have hj:=hi.2 j (aaI.2 (aaV.1 hp).1);simp only[hp,aba,aax] at hj;rcases hj with hj|⟨h1,h2⟩
 · exact absurd (aa7 hj) hij
 · refine ⟨fun t u ht hu => ?_, fun u hu hl => ?_⟩
   · simp only [ht, hu, aa5] at h1
     intro he;subst he;simp at h1
   · simp only [hu, aba, aax, aa5] at h2
     rcases h2 with(h2|h2)|h2
     · have : (looks ops o).contains u = true := aa4.2 hl
       rw[h2] at this;cases this
     · exact .inl ⟨aa4.1 h2.1,by simpa using h2.2⟩
     · exact .inr ⟨aa4.1 h2.1,by simpa using h2.2⟩
theorem filter_le (p q:Nat→Bool)(h:∀x,q x=true→p x=true):∀l:List Nat,(l.filter q).length≤(l.filter p).length
 | []=>by simp
 | x :: r => by
   have ih:=filter_le p q h r;rw[abb,abb];cases hq:q x<;>cases hp:p x
   · simpa[hq,hp] using ih
   · simp only[acf,if_false,if_true,aam];omega
   · have:=h x hq;rw[hp] at this;cases this
   · simp only[if_true,aam];omega
theorem filter_lt (p q:Nat→Bool)(h:∀x,q x=true→p x=true):∀(l:List Nat)(i:Nat),i∈l→p i=true→q i=false→(l.filter q).length<(l.filter p).length
 | [],i,hi,_,_=>by cases hi
 | x :: r, i, hi, hp, hq => by
   rw[abb,abb];by_cases hx:i=x
   · subst hx
     have:=filter_le p q h r;simp only[hp,hq,acf,if_false,if_true,aam];omega
   · have ih := filter_lt p q h r i (by rcases aaC.1 hi with h | h; exact absurd h hx; exact h) hp hq
     cases hq':q x<;>cases hp':p x
     · simpa[hq',hp'] using ih
     · simp only[acf,if_false,if_true,aam];omega
     · have:=h x hq';rw[hp'] at this;cases this
     · simp only[if_true,aam];omega
theorem kH {α:Type}{t:Nat}{d:α}:∀(l:List (Nat×α)),l.lookup t=some d→(t,d)∈l
 | [],h=>by simp at h
 | (u, e) :: r, h => by
   rw[aj] at h;split at h
   · rename_i he
     subst he;simp only[aaj] at h;subst h;exact aaq
   · exact aav _ (kH r h)
def ov (ops:Array Oper)(L:Array Bool):Prop:=∀i o,ops[i]?=some o→L.getD i false=true→∀j∈gd o,L.getD j false=true
theorem Ag {o:Oper}:j∈gd o↔∃e∈o.after,Region.binds .any e=true∧e.on=j:=by
 unfold gd;simp only[aaG,aa9,Array.mem_toList_iff];constructor
 ·rintro⟨e,⟨h1,h2⟩,h3⟩;exact⟨e,h1,h2,h3⟩
 ·rintro⟨e,h1,h2,h3⟩;exact⟨e,⟨h1,h2⟩,h3⟩
theorem gI {L:Array Bool}:j∈Region.ready .any ops L↔L.getD j true=false∧∃o,ops[j]?=some o∧∀i∈gd o,L.getD i false=true:=by
 rw[mem_ready];constructor
 ·rintro⟨h1,o,h2,h3⟩;exact⟨h1,o,h2,fun i hi=>by obtain⟨e,he,hb,rfl⟩:=Ag.1 hi;exact h3 e he hb⟩
 ·rintro⟨h1,o,h2,h3⟩;exact⟨h1,o,h2,fun e he hb=>h3 e.on (Ag.2 ⟨e,he,hb,rfl⟩)⟩
theorem eV {L:Array Bool}(hc:ov ops L):∀(n i:Nat)(o:Oper),ops[i]?=some o→(∀j∈gd o,L.getD j false=true)→(∀i o,ops[i]?=some o→∀j∈gd o,j<i)→∀j∈kV ops n i,L.getD j false=true
 | 0,i,o,_,_,_,j,hj=>by simp[kV] at hj
 | n + 1, i, o, ho, hp, hlt, j, hj => by
   simp only[kV,ho,aaU,abP] at hj;rcases hj with hj|⟨x,hx,hj⟩
   · exact hp j hj
   · have hxi := hlt i o ho x hx
     have hos:x<ops.size:=by have:=(aaV.1 ho).1;omega
     have hox:ops[x]?=some ops[x]:=aaM hos;exact eV hc n x ops[x] hox (fun y hy=>hc x _ hox (hp x hx) y hy) hlt j hj
theorem ck {L:Array Bool}{i:Nat}(hi:i<L.size):(L.setIfInBounds i true).getD j false=if j=i then true else L.getD j false:=by
 by_cases h:j=i
 ·subst h;simp[hi]
 ·rw[getD_set_ne false (abi h),if_neg h]
structure ZS (P:Program)(w0:Fr)(M0:Nat→Prop)(ops:Array Oper)(k:Nat)(S:Nat→St)(T:Nat→Nat)(D:Nat→SV)(L:Array Bool)(a:Act)(w:World)(E:Env):Prop where
 size:a.tmps.size=(S 0).n
 defers:Marks w0 a w
 wok:gr P w0 M0 E (S 0).o w
 done:∀j,j<k→L.getD j false=true→T j<(S 0).n∧bm P M0 w E (S 0).o (a.tmps.getD (T j) undef) (D j)
 old:∀t d,(S 0).s.lookup t=some d→(∀j,j<k→L.getD j false=true→T j≠t)→t<(S 0).n∧bm P M0 w E (S 0).o (a.tmps.getD t undef) d
variable {k:Nat} {S:Nat→St}{T:Nat→Nat}{D:Nat→SV}
theorem UC.same (hR:UC P w0 M0 ops k 0 S T D):∀j,j≤k→(S j).n=(S 0).n∧(S j).o=(S 0).o
 | 0,_=>⟨rfl,rfl⟩
 | j + 1, h => by
   have ih:=hR.same j acK;rw[hR.next j acK acK];exact ih
theorem UC.look (hR:UC P w0 M0 ops k 0 S T D)(hd:∀i j,i<k→j<k→i≠j→T i≠T j)(t:Nat):∀i,i≤k →
   (∃j,j<i∧T j=t∧(S i).s.lookup t=some (D j))∨((∀j,j<i→T j≠t)∧(S i).s.lookup t=(S 0).s.lookup t)
 | 0,_=>.inr ⟨fun j h=>acK,rfl⟩
 | i + 1, h => by
   rw[hR.next i acK acK];simp only[St.put,ax];by_cases ht:t=T i
   · subst ht
     exact .inl ⟨i,acK,rfl,by simp⟩
   · rw [if_neg ht]
     rcases hR.look hd t i acK with⟨j,h1,h2,h3⟩|⟨h1,h2⟩
     · exact .inl ⟨j,acK,h2,h3⟩
     · refine .inr ⟨fun j hj => ?_, h2⟩
       by_cases hji:j=i
       · subst hji;exact fun he=>ht he.symm
       · exact h1 j acK
theorem Ly (hlt:∀ i o,ops[i]?=some o→∀ j∈gd o,j<i) {k:Nat} (htl:pG ops k=true):∀ (fuel m:Nat) (L:Array Bool) (a:Act) (w:World) (s:St),L.size=ops.size→(∀ j,j<ops.size→(L.getD j false=true↔j<m))→k≤m→m≤ops.size →
   l8 P w0 M0 Q (ops.toList.drop m) s→pE P w0 M0 s a w→ops.size-m≤fuel→wpAny P .any ops (fun e a' w'=>e=.normal∧∃s',Q s'∧pE P w0 M0 s' a' w') fuel L a w:=by
 intro fuel;have hready:∀(m:Nat)(L:Array Bool),L.size=ops.size→(∀j,j<ops.size→(L.getD j false=true↔j<m))→k≤m→∀j∈Region.ready .any ops L,j=m:=by
   intro m L hL hm hkm j hj;obtain⟨h1,o,ho,hp⟩:=gI.1 hj;have hjs:=(aaV.1 ho).1;have hx:L[j]?=some L[j]:=aaM acK;have hnf:¬j<m:=fun h=>by
     have:=(hm j hjs).2 h;rw[aaL,hx] at h1 this;simp only[ace] at h1 this;rw[h1] at this;cases this
   have hc:ov ops L:=fun i o hi BF q hq=>by
     have his:=(aaV.1 hi).1;have:=hlt i o hi q hq;exact(hm q acK).2 (by have:=(hm i his).1 BF;omega)
   rcases aaK m j with hmj|hmj
   · unfold pG at htl
     rw[aaF] at htl;have h2:=htl j (aaI.2 hjs);rw[aba] at h2;rcases h2 with h2|h2
     · have : j < k := by simpa using h2
       omega
     · rw [aaF] at h2
       have h3:=eV hc ops.size j o ho hp hlt m (aa4.1 (h2 m (aaI.2 hmj)));have:=(hm m acK).1 h3;omega
   · omega
 have hnil:∀(L:Array Bool),L.size=ops.size→(∀j,j<ops.size→(L.getD j false=true↔j<ops.size))→k≤ops.size→Region.ready .any ops L=[]:=by
   intro L hL hm hk;cases hr:Region.ready .any ops L with
   | nil=>rfl
   | cons j r =>
     have hj:j∈Region.ready .any ops L:=by rw[hr];exact aaq
     have he:=hready ops.size L hL hm hk j hj;obtain⟨_,o,ho,_⟩:=gI.1 hj;have:=(aaV.1 ho).1;omega
 induction fuel with
 | zero =>
   intro m L a w s hL hm hk hms ht hs hf;obtain rfl:m=ops.size:=acK;rw[abh (by simp)] at ht;exact⟨hnil L hL hm hk,rfl,s,ht,hs⟩
 | succ fuel ih =>
   intro m L a w s hL hm hk hms ht hs hf;rcases aaK m ops.size with hlt'|hge
   · have hin : m ∈ Region.ready .any ops L := by
       refine gI.2 ⟨?_,ops[m],aaM hlt',fun q hq=>?_⟩
       · have hx : L[m]? = some L[m] := aaM acK
         cases hv:L[m] with
         | false=>rw[aaL,hx,hv];rfl
         | true =>
           have:=(hm m hlt').1 (by rw[aaL,hx,hv];rfl);omega
       · have := hlt m ops[m] (aaM hlt') q hq
         exact(hm q acK).2 this
     refine⟨fun hr=>(by rw[hr] at hin;cases hin),fun i hi=>?_⟩;obtain rfl:=hready m L hL hm hk i hi;have hd:ops.toList.drop i=ops[i] :: ops.toList.drop (i+1):=by
       rw[abF (by simpa using hlt')];simp
     rw[hd] at ht;obtain⟨hgd,s',hst,hrest⟩:=ht;have ho:ops[i]?=some ops[i]:=aaM hlt';unfold wpOp;simp only[ho,Region.wanted,hgd,if_true];refine .inl (Oper.wp_mono (fun a' w' h'=>?_) (hst a w _ hs));refine ih (i+1) _ a' w' s' (by simp[hL]) (fun j hj=>?_) acK acK hrest h' acK;rw[ck acK];by_cases hji:j=i
     · rw [if_pos hji]; constructor
       · intro _;omega
       · intro _;rfl
     · rw[if_neg hji,hm j hj];omega
   · obtain rfl : m = ops.size := acK
     rw[abh (by simp)] at ht;have hn:=hnil L hL hm hk;exact⟨fun _=>⟨rfl,s,ht,hs⟩,fun i hi=>by rw[hn] at hi;cases hi⟩
theorem we  {s:St} (hm:P.follows .mixedOrders=true) (hok:l7 ops=true) (h:HQ P w0 M0 ops Q ops.toList 0 s) {Q':Exit→St→Prop} (hQ:∀ s,Q s→Q' .normal s) :
   ao P w0 M0 (.region id ops true) s Q':=by
 obtain⟨k,S,T,D,_,hS,hR,hend⟩:=sT ops.toList 0 s (fun j=>by simp) h;obtain⟨hns,hsp⟩:=mM hok;have hsel:∀(j:Nat)(o:Oper) cs b,ops[j]?=some o→o.op≠.select cs b:=fun j o cs b ho=>Region.noSelect_spec hns j o cs b ho
 have hlt:∀i o,ops[i]?=some o→∀j∈gd o,j<i:=fun i o ho=>(hsp i o ho).1
 have hlen:ops.toList.length=ops.size:=by simp
 have hks:k≤ops.size:=by rcases hend with⟨h1,_⟩|⟨h1,_⟩<;>omega
 have hT:∀i j,i<k→j<k→i≠j→T i≠T j:=fun i j hi hj hij=>by
   obtain⟨o,ho,hd,_⟩:=hR.op i acK hi;obtain⟨p,hp,hd',_⟩:=hR.op j acK hj;exact((hsp i o ho).2 j p hp hij).1 _ _ hd hd'
 -- the state azs the text's order has it, once all pure ones are done
 have full:∀(L:Array Bool) a w E,ZS P w0 M0 ops k S T D L a w E→(∀j,j<k→L.getD j false=true)→ba P w0 M0 E (S k) a w:=by
   intro L a w E hM hall;have hsame:=hR.same k (aak _);refine⟨by rw[hsame.1];exact hM.size,hM.defers,fun t d ht=>?_,by rw[hsame.2];exact hM.wok⟩;rw[hsame.1,hsame.2];rcases hR.look hT t k (aak _) with⟨j,h1,h2,h3⟩|⟨h1,h2⟩
   · rw [h3] at ht
     simp only[aaj] at ht;subst ht;subst h2;exact hM.done j h1 (hall j h1)
   · rw [h2] at ht
     exact hM.old t d ht (fun j hj _=>h1 j hj)
 have main : ∀ (fuel : Nat) (L : Array Bool) (a : Act) (w : World) (E : Env), L.size = ops.size → ov ops L → (∀ j, k ≤ j → L.getD j false = false) → ZS P w0 M0 ops k S T D L a w E →
     ((List.range ops.size).filter (fun j=>!L.getD j false)).length≤fuel →
     wpAny P .any ops (fun e a' w'=>e=.normal∧∃s',Q s'∧pE P w0 M0 s' a' w') fuel L a w:=by
   intro fuel
   -- if something is left, something is ready
   have ready_ne:∀(L:Array Bool),L.size=ops.size→∀j,j<ops.size→L.getD j false=false→Region.ready .any ops L≠[]:=by
     intro L hL j
     induction j using Nat.strongRecOn with
     | _ j ih =>
       intro hj hf;by_cases hall:∀i∈gd ops[j],L.getD i false=true
       · intro he
         have:j∈Region.ready .any ops L:=gI.2 ⟨by
           have:L[j]?=some L[j]:=aaM acK;simp[this] at hf ⊢;exact hf,ops[j],aaM hj,hall⟩
         rw[he] at this;cases this
       · simp only [Classical.not_forall] at hall
         obtain⟨i,hi,hif⟩:=hall;have hij:=hlt j ops[j] (aaM hj) i hi;exact ih i hij acK (by cases hh:L.getD i false<;>simp_all)
   induction fuel with
   | zero =>
     intro L a w E hL hc hk hM hfu;have hall:∀j,j<ops.size→L.getD j false=true:=by
       intro j hj;cases hf:L.getD j false
       · have : j ∈ (List.range ops.size).filter (fun j => !L.getD j false) := aa9.2 ⟨aaI.2 hj, by simp [hf]⟩
         have:=abW this;omega
       · rfl
     refine⟨?_,rfl,?_⟩
     · cases hr : Region.ready .any ops L with
       | nil=>rfl
       | cons j r =>
         have:j∈Region.ready .any ops L:=by rw[hr];exact aaq
         obtain⟨h1,o,ho,_⟩:=gI.1 this;have hjs:=(aaV.1 ho).1;have:=hall j hjs;have hx:L[j]?=some L[j]:=aaM acK;simp[hx] at h1 this;rw[h1] at this;cases this
     · rcases hend with ⟨h1, hq⟩ | ⟨h1, _⟩
       · exact⟨S k,hq,E,full L a w E hM (fun j hj=>hall j acK)⟩
       · have := hall k acK
         rw[hk k (aak _)] at this;cases this
   | succ fuel ih =>
     intro L a w E hL hc hk hM hfu;refine⟨fun hr=>?_,fun i hi=>?_⟩
     · have hall : ∀ j, j < ops.size → L.getD j false = true := by
         intro j hj;cases hf:L.getD j false
         · exact absurd hr (ready_ne L hL j hj hf)
         · rfl
       rcases hend with⟨h1,hq⟩|⟨h1,_⟩
       · exact⟨rfl,S k,hq,E,full L a w E hM (fun j hj=>hall j acK)⟩
       · have := hall k acK
         rw[hk k (aak _)] at this;cases this
     · obtain ⟨hni, o, ho, hpre⟩ := gI.1 hi
       have his:=(aaV.1 ho).1;have BF:L.getD i false=false:=by
         have hx:L[i]?=some L[i]:=aaM acK;simp[hx] at hni ⊢;exact hni
       by_cases hik:i<k
       · -- a pure one
         obtain⟨o',ho',hdst,XJ,g,hg,hp1,hp0⟩:=hR.op i acK hik;obtain rfl:o'=o:=by rw[ho] at ho';exact(Option.some.inj ho').symm
         have hsame:=hR.same i acK
         -- slots that it reads hold what the text's order has
         have hlook:∀t d,t∈looks ops o'→(S i).s.lookup t=some d→t<(S 0).n∧bm P M0 w E (S 0).o (a.tmps.getD t undef) d:=by
           intro t d ht hd;rcases hR.look hT t i acK with⟨j,h1,h2,h3⟩|⟨h1,h2⟩
           · rw [h3] at hd
             simp only[aaj] at hd;subst hd;subst h2;obtain⟨p,hp,hpd,_⟩:=hR.op j acK acK;rcases((hsp i o' ho).2 j p hp acK).2 _ hpd ht with⟨hj,_⟩|⟨_,hj⟩
             · exact hM.done j acK (hpre j hj)
             · omega
           · rw [h2] at hd
             refine hM.old t d hd fun j hj zG he=>?_
             by_cases hji:j<i
             · exact h1 j hji he
             · have hne : i ≠ j := by rintro rfl; rw [BF] at zG; cases zG
               obtain⟨p,hp,hpd,_⟩:=hR.op j acK hj;rw[he] at hpd;rcases((hsp i o' ho).2 j p hp hne).2 _ hpd ht with⟨_,hj'⟩|⟨hj',_⟩
               · omega
               · have := hc j p hp zG i hj'
                 rw[BF] at this;cases this
         have hgd:Region.wanted o' (yielded ops a.tmps)=g:=by
           -- the guard reads one slot
           have hE':ba P w0 M0 E { n:=(S 0).n,s:=(S i).s.filter (fun p=>(looks ops o').contains p.1),o:=(S 0).o } a w:=by
             refine⟨hM.size,hM.defers,fun t d ht=>?_,hM.wok⟩;have h1:=zB (fun t=>(looks ops o').contains t) (S i).s t d ht;have h2:t∈looks ops o':=by
               have:(t,d)∈(S i).s.filter (fun p=>(looks ops o').contains p.1):=kH _ ht;have:=(aa9.1 this).2;exact aa4.1 this
             exact hlook t d h2 h1
           refine xi hE' ?_;rw[←hg];unfold guardOf;cases hgu:o'.guard with
           | none=>rfl
           | some jw =>
             obtain⟨j,want⟩:=jw;simp only
             cases hjd:(ops[j]?).bind (·.dst) with
             | none=>rfl
             | some t =>
               have htl:t∈looks ops o':=by
                 simp[looks,Oper.looksAt,hgu,hjd]
               have:∀(l:List (Nat×SV)),(l.filter (fun p=>(looks ops o').contains p.1)).lookup t=l.lookup t:=by
                 intro l
                 induction l with
                 | nil=>rfl
                 | cons p r ih =>
                   obtain⟨x,y⟩:=p;rw[abb];split
                   · rw[aj,aj,ih]
                   · rename_i hx
                     rw[aj,ih,if_neg];rintro rfl;exact hx (aa4.2 htl)
               simp only[St.ev,this]
         have finish:∀(v:Value)(w':World),bB w0.dr w.heap.size w w'→bm P M0 w' E (S 0).o v (D i)→wpAny P .any ops (fun e a' w'=>e=.normal∧∃s',Q s'∧pE P w0 M0 s' a' w') fuel (L.setIfInBounds i true) (a.put o'.dst v) w':=by
           intro v w' hb hv;have hgetne:∀t,t≠T i→(a.put o'.dst v).tmps.getD t undef=a.tmps.getD t undef:=by
             intro t ht;simp[hdst,Act.put,aaL,abi ht]
           have hgeteq:(a.put o'.dst v).tmps.getD (T i) undef=v:=by
             have:=hM.size;rw[hsame.1] at XJ;simp[hdst,Act.put,aaL,this,XJ]
           refine ih (L.setIfInBounds i true) _ w' E (by simp[hL]) (fun j p hp zG x hx=>?_) (fun j hj=>?_) ⟨?_,?_,hM.wok.grow hb,fun j hj zG=>?_,fun t d ht hno=>?_⟩ ?_
           · rw [ck acK] at zG ⊢
             by_cases hji:j=i
             · subst hji
               obtain rfl:p=o':=by rw[ho] at hp;exact(Option.some.inj hp).symm
               split
               · rfl
               · exact hpre x hx
             · rw [if_neg hji] at zG
               split
               · rfl
               · exact hc j p hp zG x hx
           · rw[ck acK,if_neg acK];exact hk j hj
           · simp[hdst,Act.put];exact hM.size
           · exact(hM.defers.below hb).same (by rw[hdst];rfl) fun _ h=>h
           · rw [ck acK] at zG
             by_cases hji:j=i
             · subst hji
               rw[hgeteq];exact⟨by rw[←hsame.1];exact XJ,hv⟩
             · rw [if_neg hji] at zG
               have:=hM.done j hj zG;rw[hgetne _ (hT j i hj hik hji)];exact⟨this.1,this.2.below hb⟩
           · have hti : T i ≠ t := hno i hik (by rw [ck acK, if_pos rfl])
             have:=hM.old t d ht (fun j hj zG=>hno j hj (by rw[ck acK];split<;>first|rfl|exact zG));rw[hgetne t (abi hti)];exact⟨this.1,this.2.below hb⟩
           · -- mN are left
             have hlt':=filter_lt (fun j=>!L.getD j false) (fun j=>!(L.setIfInBounds i true).getD j false) (fun x hx=>by
               rw[ck acK] at hx;split at hx
               · cases hx
               · exact hx) (List.range ops.size) i (aaI.2 his) (by rw[BF];rfl) (by rw[ck acK,if_pos J];rfl)
             omega
         unfold wpOp;simp only[ho,hgd];cases g with
         | false =>
           simp only[acf,if_false];refine finish undef w (.refl _ _) ?_;rw[hp0 rfl];exact Dm
         | true =>
           simp only[if_true];refine .inl ?_;have hy:=hp1 rfl E w a.eval (by rw[hsame.2];exact hM.wok) (fun x e hx=>by
             rw[hsame.2];cases x with
             | tmp t =>
               unfold fq at hx;by_cases hc:(looks ops o').contains t=true
               · simp only [hc, if_true] at hx
                 exact(hlook t e (aa4.1 hc) hx).2
               · simp only[hc] at hx;cases hx
             | const v =>
               simp only[fq,St.ev,aao] at hx;obtain⟨e',he',rfl⟩:=hx;exact xd he'
             | func f =>
               simp only[fq,St.ev,aaj] at hx;subst hx;exact .clo f [] [] J (fun j d hd=>by simp at hd)
             | global gl=>cases hx)
           rw[hsame.2] at hy;unfold sQ at hy;unfold Oper.wp;generalize (execOp a.eval o').run P w=r at *
           match r,hy with
           | .ok (.value v) w', hy =>
             simp only[Oper.upon];exact finish v w' hy.1 hy.2
           | .ok (.enter f args) w', hy =>
             obtain⟨rfl,hcl⟩:=hy;simp only[Oper.upon];refine hcl.mono fun e w'' ⟨v,he,hb,hv⟩=>?_
             subst he;exact finish v w'' hb hv
       · -- the first that writes
         rcases hend with⟨h1,_⟩|⟨h1,hend⟩
         · omega
         · have ⟨htl, hq⟩ : fz ops k = true ∧ rZ P w0 M0 ops Q k (S k) := by
             rcases hend with⟨htl,hq⟩|h
             · exact⟨zF htl,fun f L a w hL hiff hs hf=>Ly hlt htl f k L a w (S k) hL hiff (aak _) hks (by simpa using hq) hs hf⟩
             · exact h
           have hallk:∀j,j<k→L.getD j false=true:=by
             intro j hj;have htl':=htl;unfold fz at htl';rw[aaF] at htl';have h2:=htl' i (aaI.2 his);rw[aba] at h2;rcases h2 with h2|h2
             · have : i < k := by simpa using h2
               omega
             · rw [aaF] at h2
               exact eV hc ops.size i o ho hpre hlt j (aa4.1 (h2 j (aaI.2 acK)))
           have XK:pE P w0 M0 (S k) a w:=⟨E,full L a w E hM hallk⟩;have hiff:∀j,j<ops.size→(L.getD j false=true↔j<k):=fun j hj=>⟨fun h=>(by
             rcases aaK j k with h'|h'
             · exact h'
             · rw[hk j h'] at h;cases h),hallk j⟩
           have hleft:ops.size-k≤fuel+1:=by
             have h3:(List.range ops.size).filter (fun j=>!L.getD j false)=(List.range ops.size).filter (fun j=>decide (k≤j)):=by
               apply List.filter_congr;intro j hj;have hj':=aaI.1 hj;cases hv:L.getD j false
               · have : ¬ j < k := fun h => by rw [(hiff j hj').2 h] at hv; cases hv
                 simp;omega
               · have := (hiff j hj').1 hv
                 simp;omega
             rw[h3] at hfu;have h4:∀n,((List.range n).filter (fun j=>decide (k≤j))).length=n-k:=by
               intro n
               induction n with
               | zero=>simp
               | succ n ihn =>
                 rw[aa8,abq,aar,ihn];by_cases hkn:k≤n
                 · simp[hkn];omega
                 · simp[hkn];omega
             rw[h4] at hfu;omega
           have:=hq (fuel+1) L a w hL hiff XK hleft;exact this.2 i hi
 rintro a w ⟨E,hs⟩;have h0:=main ops.size (Array.replicate ops.size false) a { w with drawn:=w.drawn+1 } E (by simp) (fun i o ho hL=>by
     have his:=(aaV.1 ho).1;simp[his] at hL) (fun j hj=>by
     rcases aaK j ops.size with h|h<;>simp[h]) (by
     have hw:bB w0.dr w.heap.size w { w with drawn:=w.drawn+1 }:=(Below.refl _ _).drew;have hs':=hs.grow hw;rw[←hS] at hs';refine⟨hs'.size,hs'.defers,hs'.wok,fun j hj hL=>?_,fun t d ht _=>hs'.slots t d ht⟩;exfalso;have:j<ops.size:=acK;simp[this] at hL) (by
     have:=abx (fun j=>!(Array.replicate ops.size false).getD j false) (List.range ops.size);simpa using this)
 refine iT (l6 hm sS h0) fun e a' w' ⟨he,s',h1,h2⟩=>?_
 subst he;exact⟨s',hQ s' h1,h2⟩
end
end Go.Am
