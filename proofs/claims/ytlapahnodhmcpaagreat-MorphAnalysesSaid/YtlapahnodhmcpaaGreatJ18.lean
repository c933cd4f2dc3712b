/-
  Part of the proof.
-/
import Derived.Test.YtlapahnodhmcpaaGreatJ0
import Derived.Test.YtlapahnodhmcpaaGreatJ17
set_option linter.unusedVariables false
set_option linter.unusedSectionVars false
set_option linter.unusedSimpArgs false
set_option maxRecDepth 100000
set_option maxHeartbeats 40000000
namespace Go.Wb
open Go.Am
def iL:List Int→List (List Int)
 | []=>[[]]
 | a :: v=>(a :: v) :: iL v
def s5:List Int→List (List Int)
 | []=>[]
 | a :: v=>(a :: v) :: s5 v
theorem uj (b:Int):∀{u v:List Int},u∈iL v→u++[b]∈iL (v++[b])
 | u, [], h => by
   rw[iL,aag] at h
   subst h
   rw[abP,iL];exact Z7
 | u, a :: v, h => by
   rw[iL] at h
   rw[abq,iL]
   rcases aah.1 h with rfl|h
   · exact Z7
   · exact aac _ (uj b h)
theorem Aa (b:Int):∀{u v:List Int},u∈s5 v→u++[b]∈s5 (v++[b])
 | u,[],h=>by rw[s5] at h;cases h
 | u, a :: v, h => by
   rw[s5] at h
   rw[abq,s5]
   rcases aah.1 h with rfl|h
   · exact Z7
   · exact aac _ (Aa b h)
theorem kU:∀ v:List Int,[]∈iL v
 | []=>by rw[iL];exact Z7
 | a :: v=>by rw[iL];exact aac _ (kU v)
theorem Mc (b:Int)(v:List Int):[b]∈iL (v++[b]):=uj b (kU v)
theorem Dt (b:Int):∀v:List Int,[b]∈s5 (v++[b])
 | []=>by rw[abP,s5];exact Z7
 | a :: v=>by rw[abq,s5];exact aac _ (Dt b v)
theorem ic {P:List Int→Prop}(h0:P [])(hs:∀v b,P v→P (v++[b])):∀v,P v:=fun v=>by
 have:∀w:List Int,P w.reverse:=by
  intro w
  induction w with
  | nil=>exact h0
  | cons a w ih=>rw[List.reverse_cons];exact hs _ _ ih
 have h:=this v.reverse
 rwa [abm] at h
def Dv (x:Rx)(v:List Int):Rx:=v.foldl (fun t b=>dR b t) x
theorem FO (x:Rx):Dv x []=x:=rfl
theorem qC (x:Rx)(v:List Int)(b:Int):Dv x (v++[b])=dR b (Dv x v):=by unfold Dv;rw[abf];rfl
theorem Ab {x:Rx}(h:Nf x):∀v,Nf (Dv x v):=ic h fun v b ih=>by rw[qC];exact re b ih
def o6 (t:Rx):List Rx:=(oq t).filter fun a=>decide (3≤a.kind)
theorem lz {t a:Rx}:a∈o6 t↔a∈oq t∧3≤a.kind:=by unfold o6;rw[aaS,decide_eq_true_eq]
theorem FP {t a:Rx}(h:Nf t)(ha:a∈o6 t):Nf a∧(a.kind=3∨a.kind=5):=by
 have h1:=lz.1 ha
 have h2:=Hr h h1.1
 have h3:=h2.1.kinds
 exact⟨h2.1,ace⟩
theorem vh {t a:Rx}(h4:t.kind≠4)(ha:a∈o6 t):a=t∧3≤t.kind:=by
 have h1:=lz.1 ha
 rw[jo h4,aag] at h1
 exact⟨h1.1,h1.1 ▸ h1.2⟩
theorem kV {t:Rx}(h:t.kind=3∨t.kind=5):t∈o6 t:=lz.2 ⟨by rw[jo ace];exact Z7,ace⟩
theorem Du {l:List Rx}(h:∀x∈l,Nf x){a:Rx}(ha:a∈o6 (gN l)):∃y∈l,a∈o6 y:=by
 obtain⟨h1,h2⟩:=lz.1 ha
 have h3:∀x∈j6 (dS l),x∈dS l:=(Bv (pG _) (fun x hx=>wb h hx) fun x hx y hy=>xB (l:=l) hx hy).1
 have h4:a∈j6 (dS l):=by
   unfold gN vN at h1
   split at h1
   · rw [jo acg, aag] at h1
     rw[h1] at h2;exact absurd h2 acg
   · next q =>
     split at h1
     · next q1 =>
       have hm:(j6 (dS l)).getD 0 default∈j6 (dS l):=aP ace
       rw[jo (wb h (h3 _ hm)).2.2,aag] at h1
       rw[h1];exact hm
     · rw[gF rfl] at h1;exact h1
 have h5:=sW (h3 _ h4)
 rw[gq] at h5
 rcases h5 with h5|h5
 · obtain ⟨y, hy, hm⟩ := pI.1 (ia.1 h5).1
   exact⟨y,hy,lz.2 ⟨hm,h2⟩⟩
 · rw[h5.2] at h2;exact absurd h2 (by show ¬(3:Int)≤2;decide)
theorem rQ {l:List Rx}(h:(cU l).kind≠0):∀x∈l,x.kind≠0:=fun x hx e=>h (by
 unfold cU;rw[if_pos (aay.2 ⟨x,hx,decide_eq_true e⟩)];rfl)
theorem qD {l:List Rx}(hl:∀x∈l,Nf x)(h0:(cU l).kind≠0):cy (cU l)=ek l:=by
 have hk:=rQ h0
 have hm:∀y∈ek l,y.kind≠0∧y.kind≠1∧y.kind≠3:=fun y hy=>by
  obtain⟨x,hx,hy⟩:=abv.1 hy
  exact(Hq (hl x hx) (hk x hx) hy).2
 rw[nu fun j hj=>hk _ (aP hj)]
 generalize hs:ek l=s at hm ⊢
 match s with
 | []=>rfl
 | [y]=>exact eh (hm y Z7).2.2 (hm y Z7).2.1
 | y :: z :: s=>rw[rO (by simp) (by simp)];rfl
def qP (b:Int):List Rx→List (List Rx)
 | []=>[]
 | x :: l=>if(dR b x).kind=0 then qP b l else(cy (dR b x)++l) :: qP b l
theorem Bz {b:Int}:∀{l:List Rx}{i:Nat},i<l.length→(dR b (l.getD i default)).kind≠0→cy (dR b (l.getD i default))++l.drop (i+1)∈qP b l
 | x :: l, 0, _, hk => by
   rw[qP,if_neg (show ¬(dR b x).kind=0 from hk)];exact Z7
 | x :: l, i + 1, hi, hk => by
   have h:=Bz (b:=b) (l:=l) (i:=i) (by simpa using hi) hk
   rw[qP]
   split
   · exact h
   · exact aac _ h
theorem Hv {b:Int}:∀{l L:List Rx},L∈qP b l→∃pre x R,l=pre++x :: R∧(dR b x).kind≠0∧L=cy (dR b x)++R
 | [],L,h=>by rw[qP] at h;cases h
 | x :: l, L, h => by
   have step:L∈qP b l→∃pre y R,x :: l=pre++y :: R∧(dR b y).kind≠0∧L=cy (dR b y)++R:=fun h=>by
     obtain⟨pre,y,R,e,hk,hL⟩:=Hv h
     exact⟨x :: pre,y,R,by rw[e];rfl,hk,hL⟩
   rw[qP] at h
   split at h
   · exact step h
   · next hk =>
     rcases aah.1 h with rfl|h
     · exact⟨[],x,l,rfl,hk,rfl⟩
     · exact step h
theorem BA {b:Int}{R:List Rx}:∀{l L:List Rx},L∈qP b (l++R)→(∃M∈qP b l,L=M++R)∨L∈qP b R
 | [],L,h=>.inr h
 | x :: l, L, h => by
   have step:L∈qP b (l++R)→(∃M∈qP b (x :: l),L=M++R)∨L∈qP b R:=fun h=>by
     rcases BA h with⟨M,hM,e⟩|h
     · refine .inl ⟨M, ?_, e⟩
       rw[qP];split
       · exact hM
       · exact aac _ hM
     · exact .inr h
   rw[abq,qP] at h
   split at h
   · exact step h
   · next hk =>
     rcases aah.1 h with rfl|h
     · refine .inl ⟨cy (dR b x) ++ l, ?_, by rw [aaI]⟩
       rw[qP,if_neg hk];exact Z7
     · exact step h
theorem Me {t c:Rx}(h:c∈o6 t):cy c=cy t∨(cy t=[t]∧t.kind=4∧c∈o6 t):=by
 by_cases h4:t.kind=4
 ·exact .inr ⟨eh ace ace,h4,h⟩
 ·rw[(vh h4 h).1];exact .inl rfl
theorem xH {t c:Rx}(h:c∈o6 t):t.kind≠0:=fun e=>by
 have:=(vh ace h).2;omega
theorem Su {b:Int}{l:List Rx}(h:∀x∈l,Nf x):∀y∈uh b l,Nf y:=fun y hy=>by
 obtain⟨i,hi,rfl⟩:=sZ hy
 refine kC fun z hz=>?_
 rcases aah.1 hz with rfl|hz
 ·exact re b (h _ (aP hi))
 ·rw[aag.1 hz];exact kC fun u hu=>h u (aaE hu)
theorem Ul {b:Int}{l:List Rx}{i:Nat}(hi:i<l.length)(hn:∀x∈l,Nf x)(hk:∀x∈l,x.kind≠0∧x.kind≠1∧x.kind≠3)(h0:(dQ b l i).kind≠0) :
  cy (dQ b l i)=cy (dR b (l.getD i default))++l.drop (i+1)∧(dR b (l.getD i default)).kind≠0:=by
 have hd:Nf (cU (l.drop (i+1))):=kC fun u hu=>hn u (aaE hu)
 have h1:=rQ (l:=[dR b (l.getD i default),cU (l.drop (i+1))]) h0
 have h2:=h1 _ Z7
 have h3:=h1 _ (aac _ Z7)
 refine⟨?_,h2⟩
 have e:cy (dQ b l i)=ek [dR b (l.getD i default),cU (l.drop (i+1))]:=qD (fun z hz=>by
  rcases aah.1 hz with rfl|hz
  ·exact re b (hn _ (aP hi))
  ·rw[aag.1 hz];exact hd) h0
 rw[e]
 show cy _++(cy _++[])=_
 rw[aav,qD (fun u hu=>hn u (aaE hu)) h3,nD fun x hx=>(hk x (aaE hx)).2]
theorem Hw {a:Rx}(ha:Nf a)(hk:a.kind=3∨a.kind=5){b:Int}{c:Rx}(hc:c∈o6 (dR b a)) :
  cy c∈qP b (cy a)∨∃z,[z]∈qP b (cy a)∧z.kind=4∧c∈o6 z:=by
 rcases hk with hk|hk
 ·obtain⟨e,h2,hn,hkk⟩:=ha.k3 hk
  have hd:dR b a=gN (uh b a.kids):=by rw[ui ace ace,Jb hk]
  rw[hd] at hc
  obtain⟨y,hy,hcy⟩:=Du (Su hn) hc
  obtain⟨i,hi,rfl⟩:=sZ hy
  have h3:=Ul hi hn hkk (xH hcy)
  have h4:=Bz hi h3.2
  rw[←h3.1] at h4
  rw[iK hk]
  rcases Me hcy with q|⟨q,q4,qc⟩
  ·exact .inl (by rw[q];exact h4)
  ·exact .inr ⟨_,by rw[←q];exact h4,q4,qc⟩
 ·have h4:cy (dR b a)∈qP b (cy a):=by
   rw[eh (x:=a) ace ace,qP,if_neg (xH hc),aav];exact Z7
  rcases Me hc with q|⟨q,q4,qc⟩
  ·exact .inl (by rw[q];exact h4)
  ·exact .inr ⟨_,by rw[←q];exact h4,q4,qc⟩
theorem Mf {t:Rx}(ht:Nf t){b:Int}{c:Rx}(hc:c∈o6 (dR b t)):∃a∈o6 t,c∈o6 (dR b a):=by
 have low:∀x:Rx,Nf x→x.kind≤2→¬c∈o6 (dR b x):=fun x hx h2 h=>by
  have hkk:=hx.kinds
  by_cases q:x.kind=2
  ·rw[xE,if_pos q] at h
   split at h
   ·exact absurd (vh acg h).2 acg
   ·exact absurd (vh acg h).2 acg
  ·rw[ui ace (fun e=>absurd e q),By ace ace,kT] at h
   exact absurd (vh acg h).2 acg
 have hkk:=ht.kinds
 by_cases h4:t.kind=4
 ·obtain⟨e,h2,hn,hk,_⟩:=ht.k4 h4
  rw[ui ace ace,L9 h4] at hc
  obtain⟨y,hy,hcy⟩:=Du (fun y hy=>by
   obtain⟨z,hz,rfl⟩:=aao.1 hy
   exact re b (hn z hz)) hc
  obtain⟨z,hz,rfl⟩:=aao.1 hy
  refine⟨z,lz.2 ⟨by rw[gF h4];exact hz,?_⟩,hcy⟩
  by_cases q:3≤z.kind
  ·exact q
  ·exact absurd hcy (low z (hn z hz) ace)
 ·by_cases q:3≤t.kind
  ·exact⟨t,kV ace,hc⟩
  ·exact absurd hc (low t ht ace)
def cv (x:Rx)(u:List Int)(T:List (List Rx)):List (List Rx):=if x.kind=5 then T else cy (Dv x u) :: T
mutual
def dH:Rx→List Int→List (List Rx)
 | .mk k s l,v=>if k=4 then Dw l v else if k=3 then Dx l v else if k=5 then[.mk k s l] :: FQ l v (.mk k s l) else[]
def Dw:List Rx→List Int→List (List Rx)
 | [],_=>[]
 | x :: l,v=>dH x v++Dw l v
def Dx:List Rx→List Int→List (List Rx)
 | [],_=>[]
 | x :: l,v=>(iL v).flatMap (fun u=>(cv x u (dH x u)).map (·++l))++Dx l v
def FQ:List Rx→List Int→Rx→List (List Rx)
 | [],_,_=>[]
 | x :: _,v,r=>(s5 v).flatMap fun u=>(cv x u (dH x u)).map (·++[r])
end
theorem wc (x:Rx)(v:List Int):dH x v=if x.kind=4 then Dw x.kids v else if x.kind=3 then Dx x.kids v else if x.kind=5 then[x] :: FQ x.kids v x else[]:=by
 cases x with|mk k s l=>rw[dH];rfl
theorem BB {x:Rx}(h:x.kind=4)(v:List Int):dH x v=Dw x.kids v:=by rw[wc,if_pos h]
theorem BC {x:Rx}(h:x.kind=3)(v:List Int):dH x v=Dx x.kids v:=by rw[wc,if_neg ace,if_pos h]
theorem uk {x:Rx}(h:x.kind=5)(v:List Int):dH x v=[x] :: FQ x.kids v x:=by rw[wc,if_neg ace,if_neg ace,if_pos h]
theorem nc {x:Rx}(h3:x.kind≠3)(h4:x.kind≠4)(h5:x.kind≠5)(v:List Int):dH x v=[]:=by rw[wc,if_neg h4,if_neg h3,if_neg h5]
theorem jY {L:List Rx}{v:List Int}:∀{l:List Rx},L∈Dw l v↔∃x∈l,L∈dH x v
 | []=>by rw[Dw];simp
 | x :: l=>by rw[Dw,aaC,jY];simp
theorem ie {L:List Rx}{v:List Int}:∀{l:List Rx},L∈Dx l v↔∃pre x R,l=pre++x :: R∧∃u∈iL v,∃M∈cv x u (dH x u),L=M++R
 | [] => by
   rw[Dx]
   exact⟨fun h=>(by cases h),fun⟨pre,x,R,e,_⟩=>absurd e (by cases pre<;>simp)⟩
 | y :: l => by
   rw[Dx,aaC,ie]
   constructor
   · rintro (h | ⟨pre, x, R, e, h⟩)
     · obtain ⟨u, hu, h⟩ := abv.1 h
       obtain⟨M,hM,e⟩:=aao.1 h
       exact⟨[],y,l,rfl,u,hu,M,hM,e.symm⟩
     · exact⟨y :: pre,x,R,by rw[e];rfl,h⟩
   · rintro ⟨pre, x, R, e, h⟩
     match pre,e with
     | [], e =>
       obtain⟨rfl,rfl⟩:=List.cons.inj e
       obtain⟨u,hu,M,hM,hL⟩:=h
       exact .inl (abv.2 ⟨u,hu,aao.2 ⟨M,hM,hL.symm⟩⟩)
     | z :: pre, e =>
       obtain⟨rfl,rfl⟩:=List.cons.inj e
       exact .inr ⟨pre,x,R,rfl,h⟩
theorem lY {L:List Rx}{v:List Int}{x r:Rx}:L∈FQ [x] v r↔∃u∈s5 v,∃M∈cv x u (dH x u),L=M++[r]:=by
 rw[FQ,abv]
 constructor
 ·rintro⟨u,hu,h⟩
  obtain⟨M,hM,e⟩:=aao.1 h
  exact⟨u,hu,M,hM,e.symm⟩
 ·rintro⟨u,hu,M,hM,e⟩
  exact⟨u,hu,aao.2 ⟨M,hM,e.symm⟩⟩
structure OD (x:Rx):Prop where
 base:∀a∈o6 x,cy a∈dH x []
 exp:∀v z,[z]∈dH x v→z.kind=4→∀a∈o6 z,cy a∈dH x v
 step:∀v b L L',L∈dH x v→L'∈qP b L→L'∈dH x (v++[b])
 all:∀v a,a∈o6 (Dv x v)→cy a∈dH x v
theorem OD.mk' {x:Rx}(hx:Nf x)(base:∀a∈o6 x,cy a∈dH x [])(exp:∀v z,[z]∈dH x v→z.kind=4→∀a∈o6 z,cy a∈dH x v)
  (step:∀v b L L',L∈dH x v→L'∈qP b L→L'∈dH x (v++[b])):OD x:=by
 refine⟨base,exp,step,ic (P:=fun v=>∀a,a∈o6 (Dv x v)→cy a∈dH x v) base fun v b ih c hc=>?_⟩
 rw[qC] at hc
 obtain⟨a,ha,hca⟩:=Mf (Ab hx v) hc
 have h1:=FP (Ab hx v) ha
 have h2:=ih a ha
 rcases Hw h1.1 h1.2 hca with h3|⟨z,h3,h4,h5⟩
 ·exact step v b _ _ h2 h3
 ·exact exp _ z (step v b _ _ h2 h3) h4 c h5
theorem Mg {x:Rx}{u:List Int}{T:List (List Rx)}{M:List Rx}(h:M∈T):M∈cv x u T:=by
 unfold cv;split
 ·exact h
 ·exact aac _ h
theorem Sv {x:Rx}{u:List Int}{T:List (List Rx)}(h:x.kind≠5):cy (Dv x u)∈cv x u T:=by
 unfold cv;rw[if_neg h];exact Z7
theorem Hx {x:Rx} (hx:Nf x) (hc:OD x) {u:List Int} {b:Int} {M M':List Rx} (hM:M∈cv x u (dH x u)) (h:M'∈qP b M):M'∈cv x (u++[b]) (dH x (u++[b])):=by
 by_cases hT:M∈dH x u
 · exact Mg (hc.step u b _ _ hT h)
 · unfold cv at hM
   by_cases h5:x.kind=5
   · rw[if_pos h5] at hM;exact absurd hM hT
   · rw [if_neg h5] at hM
     rcases aah.1 hM with rfl|hM
     · by_cases k3 : (Dv x u).kind = 3
       · exact absurd (hc.all u _ (kV (.inl k3))) hT
       · by_cases k1 : (Dv x u).kind = 1
         · rw[lV k1,qP] at h;cases h
         · rw [eh k3 k1, qP, qP] at h
           split at h
           · cases h
           · rw [aav, aag] at h
             rw[h,←qC];exact Sv h5
     · exact absurd hM hT
theorem Mh {x:Rx}(hx:Nf x)(hc:OD x){b:Int}(h0:(dR b x).kind≠0):cy (dR b x)∈cv x [b] (dH x [b]):=by
 by_cases h5:x.kind=5
 ·refine Mg (hc.step [] b [x] _ ?_ ?_)
  ·rw[uk h5];exact Z7
  ·rw[qP,if_neg h0,aav];exact Z7
 ·exact Sv (x:=x) (u:=[b]) h5
theorem Hy {M R:List Rx}{z:Rx}(h:[z]=M++R):(M=[]∧R=[z])∨(M=[z]∧R=[]):=by
 match M,h with
 | [],h=>exact .inl ⟨rfl,h.symm⟩
 | [y],h=>obtain⟨rfl,e⟩:=List.cons.inj h;exact .inr ⟨rfl,e.symm⟩
 | y :: y' :: M,h=>obtain⟨_,e⟩:=List.cons.inj h;cases e
theorem xI {t z:Rx}(ht:Nf t)(h:cy t=[z]):t=z:=by
 by_cases k3:t.kind=3
 ·have:=(ht.k3 k3).2.1
  rw[iK k3] at h
  rw[h] at this;exact absurd this (by simp)
 ·by_cases k1:t.kind=1
  ·rw[lV k1] at h;cases h
  ·rw[eh k3 k1] at h;exact(List.cons.inj h).1
theorem oy {x:Rx} (h:Nf x):OD x:=by
 have low:∀x:Rx,Nf x→x.kind≤2→OD x:=fun x hx h2=>by
   have e:∀v,dH x v=[]:=nc ace ace ace
   refine OD.mk' hx (fun a ha=>?_) (fun v z hz=>?_) fun v b L L' hL=>?_
   · have:=(vh ace ha).2;omega
   · rw[e] at hz;cases hz
   · rw[e] at hL;cases hL
 induction h with
 | none=>exact low _ .none acg
 | empty=>exact low _ .empty acg
 | set h=>exact low _ (.set h) (by show(2:Int)≤2;decide)
 | @seq l h2 hn hk ih =>
   have hx:=Nf.seq h2 hn hk
   have e:∀v,dH (.mk 3 [] l) v=Dx l v:=BC rfl
   refine OD.mk' hx (fun a ha=>?_) (fun v z hz h4 a ha=>?_) fun v b L L' hL hL'=>?_
   · rw [(vh (by show ¬ (3 : Int) = 4; decide) ha).1, e, iK rfl]
     show l∈_
     match l,h2,hk,ih with
     | y :: l, h2, hk, ih =>
       refine ie.2 ⟨[],y,l,rfl,[],kU _,[y],?_,rfl⟩
       by_cases h5:y.kind=5
       · exact Mg (by rw[uk h5];exact Z7)
       · have := Sv (x := y) (u := []) (T := dH y []) h5
         rwa [FO,eh (hk y Z7).2.2 (hk y Z7).2.1] at this
   · rw [e] at hz ⊢
     obtain⟨pre,y,R,el,u,hu,M,hM,eM⟩:=ie.1 hz
     have hy:y∈l:=by rw[el];simp
     have hc:=ih y hy
     rcases Hy eM with⟨rfl,rfl⟩|⟨rfl,rfl⟩
     · have hz' : z ∈ l := by rw [el]; simp
       refine ie.2 ⟨pre++[y],z,[],by rw[el];simp,[],kU _,cy a,Mg ((ih z hz').base a ha),by rw[aav]⟩
     · refine ie.2 ⟨pre, y, [], el, u, hu, cy a, Mg ?_, by rw [aav]⟩
       by_cases hT:[z]∈dH y u
       · exact hc.exp u z hT h4 a ha
       · unfold cv at hM
         by_cases h5:y.kind=5
         · rw[if_pos h5] at hM;exact absurd hM hT
         · rw [if_neg h5] at hM
           rcases aah.1 hM with e1|hM
           · have := xI (Ab (hn y hy) u) e1.symm
             exact hc.all u a (by rw[this];exact ha)
           · exact absurd hM hT
   · rw [e] at hL ⊢
     obtain⟨pre,y,R,el,u,hu,M,hM,rfl⟩:=ie.1 hL
     have hy:y∈l:=by rw[el];simp
     rcases BA hL' with⟨M',hM',rfl⟩|hR
     · exact ie.2 ⟨pre,y,R,el,u++[b],uj b hu,M',Hx (hn y hy) (ih y hy) hM hM',rfl⟩
     · obtain ⟨pre', z, R', eR, h0, rfl⟩ := Hv hR
       have hz:z∈l:=by rw[el,eR];simp
       exact ie.2 ⟨pre++y :: pre',z,R',by rw[el,eR];simp,[b],Mc b v,_,Mh (hn z hz) (ih z hz) h0,rfl⟩
 | @alt l h2 hn hk h4 h5 h6 ih =>
   have hx:=Nf.alt h2 hn hk h4 h5 h6
   have e:∀v,dH (.mk 4 [] l) v=Dw l v:=BB rfl
   refine OD.mk' hx (fun a ha=>?_) (fun v z hz h4 a ha=>?_) fun v b L L' hL hL'=>?_
   · rw [e]
     have h1:=lz.1 ha
     rw[gF rfl] at h1
     have ha':a∈l:=h1.1
     have hkk:=(hn a ha').kinds
     have:=hk a ha'
     exact jY.2 ⟨a,ha',(ih a ha').base a (kV ace)⟩
   · rw [e] at hz ⊢
     obtain⟨y,hy,h⟩:=jY.1 hz
     exact jY.2 ⟨y,hy,(ih y hy).exp v z h h4 a ha⟩
   · rw [e] at hL ⊢
     obtain⟨y,hy,h⟩:=jY.1 hL
     exact jY.2 ⟨y,hy,(ih y hy).step v b L L' h hL'⟩
 | @star y hn hk h4 hc =>
   have hx:=Nf.star hn hk h4
   have e:∀v,dH (.mk 5 [] [y]) v=[.mk 5 [] [y]] :: FQ [y] v (.mk 5 [] [y]):=uk rfl
   have hself:∀v b L',L'∈qP b [Rx.mk 5 [] [y]]→L'∈dH (.mk 5 [] [y]) (v++[b]):=fun v b L' h=>by
     rw[qP,qP] at h
     split at h
     · cases h
     · next h0 =>
       rw[aav,aag] at h
       have ed:dR b (.mk 5 [] [y])=cU [dR b y,.mk 5 [] [y]]:=Hu rfl (by show 0<1;decide)
       rw[ed] at h h0
       have hk0:=rQ h0 _ Z7
       rw[qD (fun z hz=>by
         rcases aah.1 hz with rfl|hz
         · exact re b hn
         · rw[aag.1 hz];exact hx) h0] at h
       rw[h,e]
       refine aac _ (lY.2 ⟨[b],Dt b v,_,Mh hn hc hk0,?_⟩)
       show cy _++(cy _++[])=_
       rw[aav,eh (x:=.mk 5 [] [y]) (by show ¬(5:Int)=3;decide) (by show ¬(5:Int)=1;decide)]
   refine OD.mk' hx (fun a ha=>?_) (fun v z hz h4 a ha=>?_) fun v b L L' hL hL'=>?_
   · rw[(vh (by show ¬(5:Int)=4;decide) ha).1,e,eh (by show ¬(5:Int)=3;decide) (by show ¬(5:Int)=1;decide)];exact Z7
   · rw [e] at hz
     have hz5:z.kind=5:=by
       rcases aah.1 hz with q|q
       · rw[(List.cons.inj q).1];rfl
       · obtain ⟨u, hu, M, hM, eM⟩ := lY.1 q
         rcases Hy eM with⟨_,q⟩|⟨_,q⟩
         · rw[←(List.cons.inj q).1];rfl
         · cases q
     omega
   · rw [e] at hL
     rcases aah.1 hL with rfl|hL
     · exact hself v b L' hL'
     · obtain ⟨u, hu, M, hM, rfl⟩ := lY.1 hL
       rcases BA hL' with⟨M',hM',rfl⟩|hR
       · rw [e]
         exact aac _ (lY.2 ⟨u++[b],Aa b hu,M',Hx hn hc hM hM',rfl⟩)
       · exact hself v b L' hR
inductive dJ (P:List Int→Prop):List Int→Prop
 | nil:dJ P []
 | cons {u v:List Int}:P u→dJ P v→dJ P (u++v)
mutual
def e7:Rx→List Int→Prop
 | .mk k s l=>fun w=>if k=1 then w=[] else if k=2 then ∃a,w=[a]∧a∈s else if k=3 then j7 l w else if k=4 then yY l w else if k=5 then Dy l w else False
def j7:List Rx→List Int→Prop
 | []=>fun w=>w=[]
 | x :: l=>fun w=>∃u v,w=u++v∧e7 x u∧j7 l v
def yY:List Rx→List Int→Prop
 | []=>fun _=>False
 | x :: l=>fun w=>e7 x w∨yY l w
def Dy:List Rx→List Int→Prop
 | []=>fun w=>w=[]
 | x :: _=>fun w=>dJ (e7 x) w
end
theorem rR (r:Rx)(w:List Int):e7 r w=(if r.kind=1 then w=[] else if r.kind=2 then ∃a,w=[a]∧a∈r.syms else if r.kind=3 then j7 r.kids w else if r.kind=4 then yY r.kids w else
 if r.kind=5 then Dy r.kids w else False):=by cases r with|mk k s l=>rw[e7];rfl
theorem mJ {r:Rx}(h:r.kind=0)(w:List Int):¬e7 r w:=by rw[rR,if_neg ace,if_neg ace,if_neg ace,if_neg ace,if_neg ace];exact id
theorem lZ {r:Rx}(h:r.kind=1)(w:List Int):e7 r w↔w=[]:=by rw[rR,if_pos h]
theorem nF {r:Rx}(h:r.kind=2)(w:List Int):e7 r w↔∃a,w=[a]∧a∈r.syms:=by rw[rR,if_neg ace,if_pos h]
theorem vi {r:Rx}(h:r.kind=3)(w:List Int):e7 r w↔j7 r.kids w:=by rw[rR,if_neg ace,if_neg ace,if_pos h]
theorem s6 {r:Rx}(h:r.kind=4)(w:List Int):e7 r w↔yY r.kids w:=by rw[rR,if_neg ace,if_neg ace,if_neg ace,if_pos h]
theorem vj {r:Rx}(h:r.kind=5)(w:List Int):e7 r w↔Dy r.kids w:=by rw[rR,if_neg ace,if_neg ace,if_neg ace,if_neg ace,if_pos h]
theorem ig (w:List Int):j7 [] w↔w=[]:=by rw[j7]
theorem dM (x:Rx)(l:List Rx)(w:List Int):j7 (x :: l) w↔∃u v,w=u++v∧e7 x u∧j7 l v:=by rw[j7]
theorem gr {w:List Int}:∀{l:List Rx},yY l w↔∃x∈l,e7 x w
 | []=>by rw[yY];simp
 | x :: l=>by rw[yY];show e7 x w∨yY l w↔_;rw[gr];simp
theorem l3 (x:Rx)(w:List Int):Dy [x] w↔dJ (e7 x) w:=by rw[Dy]
theorem iX (x:Rx)(w:List Int):j7 [x] w↔e7 x w:=by
 rw[dM]
 constructor
 ·rintro⟨u,v,rfl,hu,hv⟩
  rw[ig] at hv
  rw[hv,aav];exact hu
 ·exact fun h=>⟨w,[],(aav w).symm,h,(ig _).2 rfl⟩
theorem pL:∀ {l m:List Rx}{w:List Int},j7 (l++m) w↔∃u v,w=u++v∧j7 l u∧j7 m v
 | [], m, w => by
   rw[abP]
   constructor
   · exact fun h=>⟨[],w,rfl,(ig _).2 J,h⟩
   · rintro ⟨u, v, rfl, hu, hv⟩
     rw[ig] at hu
     rw[hu];exact hv
 | x :: l, m, w => by
   rw[abq,dM]
   constructor
   · rintro ⟨u, v, rfl, hu, hv⟩
     obtain⟨u',v',rfl,hu',hv'⟩:=pL.1 hv
     exact⟨u++u',v',(aaI _ _ _).symm,(dM _ _ _).2 ⟨u,u',rfl,hu,hu'⟩,hv'⟩
   · rintro ⟨u, v, rfl, hu, hv⟩
     obtain⟨u',v',rfl,hu',hv'⟩:=(dM _ _ _).1 hu
     exact⟨u',v'++v,aaI _ _ _,hu',pL.2 ⟨v',v,rfl,hv',hv⟩⟩
theorem dJ.mono {P Q:List Int→Prop}(h:∀w,P w→dJ Q w){w:List Int}(hw:dJ P w):dJ Q w:=by
 have app:∀{u v:List Int},dJ Q u→dJ Q v→dJ Q (u++v):=fun{u v} hu hv=>by
  induction hu with
  | nil=>exact hv
  | cons h1 _ ih=>rw[aaI];exact .cons h1 ih
 induction hw with
 | nil=>exact .nil
 | cons h1 _ ih=>exact app (h _ h1) ih
theorem dJ.one {P:List Int→Prop}{w:List Int}(h:P w):dJ P w:=by
 have:=dJ.cons h .nil
 rwa [aav] at this
theorem dJ.congr {P Q:List Int→Prop}(h:∀w,P w↔Q w)(w:List Int):dJ P w↔dJ Q w :=
 ⟨dJ.mono fun w hw=>.one ((h w).1 hw),dJ.mono fun w hw=>.one ((h w).2 hw)⟩
theorem dJ.none {P:List Int→Prop}(h:∀w,P w→w=[]){w:List Int}(hw:dJ P w):w=[]:=by
 induction hw with
 | nil=>rfl
 | cons h1 _ ih=>rw[h _ h1,ih];rfl
theorem dJ.head {P:List Int→Prop}{a:Int}{w:List Int}:dJ P (a :: w)↔∃u v,w=u++v∧P (a :: u)∧dJ P v:=by
 constructor
 · intro h
   have:∀z,dJ P z→z=a :: w→∃u v,w=u++v∧P (a :: u)∧dJ P v:=by
     intro z hz
     induction hz with
     | nil=>intro e;cases e
     | @cons u v h1 h2 ih =>
       intro e
       match u,e with
       | [],e=>exact ih e
       | b :: u, e =>
         obtain⟨rfl,e2⟩:=List.cons.inj e
         exact⟨u,v,e2.symm,h1,h2⟩
   exact this _ h J
 · rintro ⟨u, v, rfl, h1, h2⟩
   exact .cons (u:=a :: u) h1 h2
theorem dJ.rev {P Q:List Int→Prop}(h:∀w,P w→Q w.reverse){w:List Int}(hw:dJ P w):dJ Q w.reverse:=by
 have app:∀{u v:List Int},dJ Q u→dJ Q v→dJ Q (u++v):=fun{u v} hu hv=>by
  induction hu with
  | nil=>exact hv
  | cons h1 _ ih=>rw[aaI];exact .cons h1 ih
 induction hw with
 | nil=>exact .nil
 | cons h1 _ ih=>rw[List.reverse_append];exact app ih (.one (h _ h1))
theorem we (x:Rx):cP x=true↔e7 x []:=by
 refine Bx (P:=fun x=>cP x=true↔e7 x []) (fun x ih=>?_) x
 rw[qp]
 by_cases h3:x.kind=3
 · rw [if_pos h3, vi h3]
   have:∀l:List Rx,(∀x∈l,cP x=true↔e7 x [])→(l.all cP=true↔j7 l []):=by
     intro l
     induction l with
     | nil=>intro _;rw[ig];simp
     | cons y l ihl =>
       intro h
       have h1:=ihl fun z hz=>h z (aac _ hz)
       rw[List.all_cons,aae,h y Z7,h1,dM]
       constructor
       · exact fun h=>⟨[],[],rfl,h.1,h.2⟩
       · rintro ⟨u, v, e, hu, hv⟩
         have e':=List.append_eq_nil_iff.1 e.symm
         rw[e'.1] at hu
         rw[e'.2] at hv
         exact⟨hu,hv⟩
   exact this _ ih
 · rw [if_neg h3]
   by_cases h4:x.kind=4
   · rw [if_pos h4, s6 h4, gr, aay]
     exact exists_congr fun y=>and_congr_right fun hy=>ih y hy
   · rw [if_neg h4, decide_eq_true_eq]
     by_cases h1:x.kind=1
     · rw[lZ h1];exact⟨fun _=>rfl,fun _=>.inl h1⟩
     · by_cases h5 : x.kind = 5
       · rw [vj h5]
         refine⟨fun _=>?_,fun _=>.inr h5⟩
         match x.kids with
         | []=>rw[Dy]
         | y :: l=>rw[Dy];exact .nil
       · refine ⟨fun h => absurd h ace, fun h => ?_⟩
         by_cases h2:x.kind=2
         · obtain ⟨a, e, _⟩ := (nF h2 _).1 h
           cases e
         · rw[rR,if_neg h1,if_neg h2,if_neg h3,if_neg h4,if_neg h5] at h;cases h
theorem Mi (x:Rx)(w:List Int):j7 (cy x) w↔e7 x w:=by
 by_cases h3:x.kind=3
 ·rw[iK h3,vi h3]
 ·by_cases h1:x.kind=1
  ·rw[lV h1,ig,lZ h1]
  ·rw[eh h3 h1,iX]
theorem Dz:∀ (l:List Rx)(w:List Int),j7 (ek l) w↔j7 l w
 | [],w=>Iff.rfl
 | x :: l, w => by
   have e:ek (x :: l)=cy x++ek l:=rfl
   rw[e,pL,dM]
   exact exists_congr fun u=>exists_congr fun v=>and_congr_right fun _=>and_congr (Mi x u) (Dz l v)
theorem Mj {l:List Rx}{w:List Int}(h:j7 l w):∀x∈l,∃u,e7 x u:=by
 induction l generalizing w with
 | nil=>intro x hx;cases hx
 | cons y l ih =>
   obtain⟨u,v,rfl,hu,hv⟩:=(dM _ _ _).1 h
   intro x hx
   rcases aah.1 hx with rfl|hx
   · exact⟨u,hu⟩
   · exact ih hv x hx
theorem pM (l:List Rx)(w:List Int):e7 (cU l) w↔j7 l w:=by
 unfold cU
 by_cases h:l.any (fun x=>decide (x.kind=0))=true
 ·rw[if_pos h]
  obtain⟨x,hx,h0⟩:=aay.1 h
  refine⟨fun q=>absurd q (mJ J w),fun q=>?_⟩
  obtain⟨u,hu⟩:=Mj q x hx
  exact absurd hu (mJ (of_decide_eq_true h0) u)
 ·rw[if_neg h,←Dz l]
  generalize ek l=s
  match s with
  | []=>exact(lZ (r:=eE) rfl w).trans (ig w).symm
  | [y]=>exact(iX y w).symm
  | y :: z :: s=>rw[rO (by simp) (by simp)];exact vi rfl w
theorem Mk (k:List Rx)(w:List Int):e7 (vN k) w↔∃x∈k,e7 x w:=by
 match k with
 | []=>exact⟨fun h=>absurd h (mJ rfl w),fun⟨x,hx,_⟩=>by cases hx⟩
 | [y]=>exact⟨fun h=>⟨y,Z7,h⟩,fun⟨x,hx,h⟩=>by rw[aag.1 hx] at h;exact h⟩
 | y :: z :: k=>rw[xv (by simp) (by simp)];exact(s6 rfl w).trans gr
theorem DA (x:Rx)(w:List Int):(∃y∈oq x,e7 y w)↔e7 x w:=by
 by_cases h4:x.kind=4
 ·rw[gF h4,s6 h4,gr]
 ·rw[jo h4]
  exact⟨fun⟨y,hy,h⟩=>by rw[aag.1 hy] at h;exact h,fun h=>⟨x,Z7,h⟩⟩
theorem s7 {l:List Rx}(w:List Int):e7 (gN l) w↔∃x∈l,e7 x w:=by
 have hC : (∃ x ∈ j6 (dS l), e7 x w) ↔ ∃ x ∈ dS l, e7 x w := by
   by_cases h:1<(dS l).length∧((dS l).getD 0 default).kind=1∧((dS l).drop 1).any cP=true
   · rw [xw h.1 h.2.1 h.2.2]
     constructor
     · exact fun⟨x,hx,hs⟩=>⟨x,aaE hx,hs⟩
     · rintro ⟨x, hx, hs⟩
       by_cases e:x=(dS l).getD 0 default
       · obtain ⟨y, hy, ha⟩ := aay.1 h.2.2
         rw[e,lZ h.2.1] at hs
         exact⟨y,hy,by rw[hs];exact(we y).1 ha⟩
       · exact⟨x,nB hx e,hs⟩
   · rw[lW h]
 unfold gN
 rw[Mk,hC]
 have hL:(∃x∈aW l,e7 x w)↔∃x∈l,e7 x w:=by
   constructor
   · rintro ⟨x, hx, hs⟩
     obtain⟨y,hy,hxy⟩:=pI.1 hx
     exact⟨y,hy,(DA y w).1 ⟨x,hxy,hs⟩⟩
   · rintro ⟨y, hy, hs⟩
     obtain⟨x,hx,hs⟩:=(DA y w).2 hs
     exact⟨x,pI.2 ⟨y,hy,hx⟩,hs⟩
 rw[←hL]
 constructor
 · rintro ⟨x, hx, hs⟩
   have h1:=sW hx
   rw[gq] at h1
   rcases h1 with h1|⟨_,rfl⟩
   · exact⟨x,(ia.1 h1).1,hs⟩
   · obtain ⟨a, ha, hm⟩ := (nF rfl w).1 hs
     have hm':a∈uf (c5 l):=hm
     obtain⟨y,hy,hk,hz⟩:=kS.1 (kR.1 hm')
     exact⟨y,hy,(nF hk w).2 ⟨a,ha,hz⟩⟩
 · rintro ⟨x, hx, hs⟩
   by_cases h0:x.kind=0
   · exact absurd hs (mJ h0 w)
   · by_cases h2 : x.kind = 2
     · obtain ⟨a, ha, hm⟩ := (nF h2 w).1 hs
       have hz:a∈c5 l:=kS.2 ⟨x,hx,h2,hm⟩
       refine⟨.mk 2 (uf (c5 l)) [],?_,(nF J w).2 ⟨a,ha,kR.2 hz⟩⟩
       rw[jX,jW,gq]
       exact .inr ⟨abd.2 ⟨a,hz⟩,rfl⟩
     · refine ⟨x, ?_, hs⟩
       rw[jX,jW,gq]
       exact .inl (ia.2 ⟨hx,h0,h2⟩)
theorem Ac {x:Rx} (h:Nf x) (w:List Int):e7 (lh x) w↔dJ (e7 x) w:=by
 by_cases h01:x.kind=0∨x.kind=1
 · rw [vY h01, lZ rfl]
   refine⟨fun e=>by rw[e];exact .nil,fun q=>dJ.none (fun u hu=>?_) q⟩
   rcases h01 with k|k
   · exact absurd hu (mJ k u)
   · exact(lZ k u).1 hu
 · by_cases h5 : x.kind = 5
   · obtain ⟨y, e, _⟩ := h.k5 h5
     rw[vZ h5]
     have hy:∀w,e7 x w↔dJ (e7 y) w:=fun w=>by rw[e];exact(vj rfl w).trans (l3 y w)
     exact⟨dJ.one,fun q=>(hy w).2 (dJ.mono (fun u hu=>(hy u).1 hu) q)⟩
   · rw [ov h01 h5]
     refine(vj J w).trans ((l3 _ w).trans ?_)
     by_cases q:x.kind=4∧(x.kids.getD 0 default).kind=1
     · obtain ⟨e, h2, hn, hk4, hs, ht, ha⟩ := h.k4 q.1
       have hx:∀u,e7 x u↔∃y∈x.kids,e7 y u:=fun u=>(s6 q.1 u).trans gr
       have hd:∀u,(∃y∈x.kids,e7 y u)↔u=[]∨∃y∈x.kids.drop 1,e7 y u:=fun u=>by
         constructor
         · rintro ⟨y, hy, hs⟩
           by_cases e:y=x.kids.getD 0 default
           · rw[e,lZ q.2] at hs;exact .inl hs
           · exact .inr ⟨y,nB hy e,hs⟩
         · rintro (rfl | ⟨y, hy, hs⟩)
           · exact⟨_,aP (i:=0) ace,(lZ q.2 _).2 J⟩
           · exact⟨y,aaE hy,hs⟩
       have hB:∀u,e7 (pD x) u↔∃y∈x.kids.drop 1,e7 y u:=fun u=>by
         by_cases q2:x.kids.length=2
         · rw [v7 q q2]
           have hl:x.kids.drop 1=[x.kids.getD 1 default]:=by rw[drop_cons ace,aaU ace]
           rw[hl]
           exact⟨fun h=>⟨_,Z7,h⟩,fun⟨y,hy,h⟩=>by rw[aag.1 hy] at h;exact h⟩
         · rw [v8 q q2]
           exact(s6 (r:=.mk x.kind x.syms (x.kids.drop 1)) q.1 u).trans gr
       constructor
       · exact dJ.mono fun u hu=>.one ((hx u).2 ((hd u).2 (.inr ((hB u).1 hu))))
       · refine dJ.mono fun u hu => ?_
         rcases(hd u).1 ((hx u).1 hu) with rfl|hu
         · exact .nil
         · exact .one ((hB u).2 hu)
     · rw[qy q]
theorem Sw (a:Int){x:Rx}(h:Nf x):∀w,e7 (dR a x) w↔e7 x (a :: w):=by
 induction h with
 | none=>exact fun w=>by rw[ui acg (fun h=>by cases h),By acg acg,kT];exact⟨fun q=>absurd q (mJ rfl w),fun q=>absurd q (mJ rfl _)⟩
 | empty=>exact fun w=>by rw[ui acg (fun h=>by cases h),By acg acg,kT];exact⟨fun q=>absurd q (mJ rfl w),fun q=>absurd ((lZ rfl _).1 q) (by simp)⟩
 | @set s h =>
   intro w
   rw[xE,if_pos (show(Rx.mk 2 s []).kind=2 from rfl),nF (r:=.mk 2 s []) rfl]
   show e7 (if a∈s then _ else _) w↔∃b,_∧b∈s
   by_cases q:a∈s
   · rw [if_pos q, lZ rfl]
     constructor
     · rintro rfl;exact⟨a,rfl,q⟩
     · rintro⟨b,e,_⟩;exact(List.cons.inj e).2
   · rw [if_neg q]
     refine⟨fun h=>absurd h (mJ J w),fun⟨b,e,hb⟩=>?_⟩
     rw[(List.cons.inj e).1] at q;exact absurd hb q
 | @seq l h2 hn hk ih =>
   intro w
   rw[ui (by simp[Rx.kind]) (by simp[Rx.kind]),Jb rfl,s7,vi rfl]
   show(∃x∈uh a l,_)↔j7 l _
   clear h2 hk
   induction l with
   | nil =>
     rw[uh,ig]
     exact⟨fun⟨x,hx,_⟩=>(by cases hx),fun e=>(by cases e)⟩
   | cons x l ihl =>
     have h1:=ihl (fun y hy=>hn y (aac _ hy)) fun y hy=>ih y (aac _ hy)
     have h2:e7 (cU [dR a x,cU l]) w↔∃u v,w=u++v∧e7 x (a :: u)∧j7 l v:=by
       rw[pM,dM]
       refine exists_congr fun u=>exists_congr fun v=>and_congr_right fun _=>and_congr (ih x Z7 u) ?_
       rw[iX,pM]
     rw[uh,dM]
     constructor
     · rintro ⟨y, hy, hs⟩
       rcases aah.1 hy with rfl|hy
       · obtain ⟨u, v, rfl, hu, hv⟩ := h2.1 hs
         exact⟨a :: u,v,rfl,hu,hv⟩
       · split at hy
         · next ha=>exact⟨[],a :: w,rfl,(we x).1 ha,h1.1 ⟨y,hy,hs⟩⟩
         · cases hy
     · rintro ⟨u, v, e, hu, hv⟩
       match u,e with
       | [], e =>
         have e':v=a :: w:=e.symm
         rw[e'] at hv
         obtain⟨y,hy,hs⟩:=h1.2 hv
         exact⟨y,aac _ (by rw[if_pos ((we x).2 hu)];exact hy),hs⟩
       | b :: u, e =>
         obtain⟨rfl,e2⟩:=List.cons.inj e
         exact⟨_,Z7,h2.2 ⟨u,v,e2,hu,hv⟩⟩
 | @alt l h2 hn hk h4 h5 h6 ih =>
   intro w
   rw[ui (by simp[Rx.kind]) (by simp[Rx.kind]),L9 rfl,s7,s6 rfl,gr]
   show(∃x∈l.map (dR a),_)↔∃x∈l,_
   constructor
   · rintro ⟨y, hy, hs⟩
     obtain⟨z,hz,rfl⟩:=aao.1 hy
     exact⟨z,hz,(ih z hz w).1 hs⟩
   · rintro ⟨z, hz, hs⟩
     exact⟨_,aao.2 ⟨z,hz,rfl⟩,(ih z hz w).2 hs⟩
 | @star y hn hk h4 ih =>
   intro w
   have hs:∀w,e7 (.mk 5 [] [y]) w↔dJ (e7 y) w:=fun w=>(vj rfl w).trans (l3 y w)
   rw[Hu rfl (by show 0<1;decide),pM,dM,hs,dJ.head]
   refine exists_congr fun u=>exists_congr fun v=>and_congr_right fun _=>and_congr (ih u) ?_
   rw[iX,hs]
theorem Sx {x:Rx}(h:Nf x):∀u w,e7 (Dv x u) w↔e7 x (u++w):=fun u=>by
 refine ic (P:=fun u=>∀w,e7 (Dv x u) w↔e7 x (u++w)) (fun w=>Iff.rfl) (fun u b ih w=>?_) u
 rw[qC,Sw b (Ab h u),ih,aaI];rfl
theorem Sy {x:Rx}(h:Nf x)(u:List Int):cP (Dv x u)=true↔e7 x u:=by rw[we,Sx h,aav]
theorem DB {f:Rx→Rx}:∀{l:List Rx},(∀x∈l,∀w,e7 (f x) w↔e7 x w)→∀w,j7 (l.map f) w↔j7 l w
 | [],_,w=>Iff.rfl
 | x :: l, h, w => by
   rw[aaL,dM,dM]
   exact exists_congr fun u=>exists_congr fun v=>and_congr_right fun _=>and_congr (h x Z7 u) (DB (fun y hy=>h y (aac _ hy)) v)
theorem DC {f:Rx→Rx}:∀{l:List Rx},(∀x∈l,∀w,e7 (f x) w↔e7 x w.reverse)→∀w,j7 (l.map f).reverse w↔j7 l w.reverse
 | [], _, w => by
   rw[aa9,List.reverse_nil,ig,ig,List.reverse_eq_nil_iff]
 | x :: l, h, w => by
   rw[aaL,List.reverse_cons,pL,dM]
   have ih:=DC (l:=l) fun y hy=>h y (aac _ hy)
   constructor
   · rintro ⟨u, v, rfl, hu, hv⟩
     rw[iX] at hv
     exact⟨v.reverse,u.reverse,List.reverse_append,(h x Z7 v).1 hv,(ih u).1 hu⟩
   · rintro ⟨u, v, e, hu, hv⟩
     refine⟨v.reverse,u.reverse,?_,(ih _).2 (by rw[abm];exact hv),(iX _ _).2 ((h x Z7 _).2 (by rw[abm];exact hu))⟩
     rw[←List.reverse_append,←e,abm]
theorem Ad (r:Rx):aQ r=true→(∀ w,e7 (aJ false r) w↔e7 r w)∧∀ w,e7 (aJ true r) w↔e7 r w.reverse:=by
 refine Bx (P:=fun r=>aQ r=true→(∀w,e7 (aJ false r) w↔e7 r w)∧∀w,e7 (aJ true r) w↔e7 r w.reverse) (fun r ih hv=>?_) r
 have hf:∀x∈r.kids,∀w,e7 (aJ false x) w↔e7 x w:=fun x hx=>(ih x hx (ib hv x hx)).1
 have ht:∀x∈r.kids,∀w,e7 (aJ true x) w↔e7 x w.reverse:=fun x hx=>(ih x hx (ib hv x hx)).2
 by_cases h3:r.kind=3
 · exact⟨fun w=>by rw[lG h3,pM,vi h3,DB hf],fun w=>by rw[nz h3,pM,vi h3,DC ht]⟩
 · by_cases h4 : r.kind = 4
   · have hm : ∀ t w, (∃ x ∈ r.kids.map (aJ t), e7 x w) ↔ ∃ x ∈ r.kids, e7 (aJ t x) w := fun t w =>
       ⟨fun⟨y,hy,hs⟩=>by obtain⟨z,hz,rfl⟩:=aao.1 hy;exact⟨z,hz,hs⟩,fun⟨z,hz,hs⟩=>⟨_,aao.2 ⟨z,hz,rfl⟩,hs⟩⟩
     exact⟨fun w=>by rw[kP h4,s7,hm,s6 h4,gr];exact exists_congr fun x=>and_congr_right fun hx=>hf x hx w,
       fun w=>by rw[kP h4,s7,hm,s6 h4,gr];exact exists_congr fun x=>and_congr_right fun hx=>ht x hx w⟩
   · by_cases h5 : r.kind = 5
     · obtain ⟨y, hy⟩ := List.length_eq_one_iff.1 (ly hv h5).2
       have hm:y∈r.kids:=by rw[hy];exact Z7
       have hb:=fun t=>pK t y (ib hv y hm)
       have e:∀t,(r.kids.map (aJ t)).getD 0 default=aJ t y:=fun t=>by rw[hy];rfl
       refine⟨fun w=>?_,fun w=>?_⟩
       · rw [kQ h5, e, Ac (hb _), vj h5, hy, l3]
         exact dJ.congr (hf y hm) w
       · rw [kQ h5, e, Ac (hb _), vj h5, hy, l3]
         constructor
         · exact dJ.rev fun u hu=>(ht y hm u).1 hu
         · intro q
           have:=dJ.rev (Q:=e7 (aJ true y)) (fun u hu=>(ht y hm _).2 (by rw[abm];exact hu)) q
           rwa [abm] at this
     · have hk := pJ hv
       have e:∀t w,e7 (aJ t r) w↔e7 r w:=fun t w=>by
         rw[jV h3 h4 h5]
         by_cases h1:r.kind=1
         · rw[lZ h1,lZ (r:=.mk r.kind r.syms []) h1]
         · by_cases h2 : r.kind = 2
           · rw[nF h2,nF (r:=.mk r.kind r.syms []) h2];exact Iff.rfl
           · exact⟨fun q=>absurd q (mJ (r:=.mk r.kind r.syms []) (by show r.kind=0;omega) w),fun q=>absurd q (mJ ace _)⟩
       refine⟨e false,fun w=>(e true w).trans ?_⟩
       by_cases h1:r.kind=1
       · rw[lZ h1,lZ h1,List.reverse_eq_nil_iff]
       · by_cases h2 : r.kind = 2
         · rw [nF h2, nF h2]
           refine exists_congr fun a=>and_congr_left fun _=>?_
           constructor
           · rintro rfl;rfl
           · intro q
             have:=congrArg List.reverse q
             rwa [abm] at this
         · exact⟨fun q=>absurd q (mJ ace w),fun q=>absurd q (mJ ace _)⟩
theorem Sz (r:Rx)(w:List Int)(k:Nat):Je r w k=Dv (dy r) (w.take k):=rfl
theorem xJ (r:Rx)(w:List Int):rP r w=cP (Dv (dy r) w):=by unfold rP;rw[Sz,aa1]
theorem lH {r:Rx}(hv:aQ r=true)(w:List Int):rP r w=true↔e7 r w:=by
 rw[xJ,Sy (qB r)]
 unfold dy;rw[if_pos hv];exact(Ad r hv).1 w
end Go.Wb
