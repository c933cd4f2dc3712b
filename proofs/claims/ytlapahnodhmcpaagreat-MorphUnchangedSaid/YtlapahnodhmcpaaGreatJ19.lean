/-
  Part of the proof.
-/
import Derived.Test.YtlapahnodhmcpaaGreatJ0
import Derived.Test.YtlapahnodhmcpaaGreatJ18
set_option linter.unusedVariables false
set_option linter.unusedSectionVars false
set_option linter.unusedSimpArgs false
set_option maxRecDepth 100000
set_option maxHeartbeats 40000000
namespace Go.Wb
open Go.Am
def iN:List Int→List (List Int)
 | []=>[[]]
 | a :: v=>(a :: v) :: iN v
def tv:List Int→List (List Int)
 | []=>[]
 | a :: v=>(a :: v) :: tv v
theorem uL (b:Int):∀{u v:List Int},u∈iN v→u++[b]∈iN (v++[b])
 | u, [], h => by
   rw[iN,aay] at h;subst h;rw[abz,iN];exact aaq
 | u, a :: v, h => by
   rw[iN] at h;rw[abN,iN];rcases aaC.1 h with rfl|h
   · exact aaq
   · exact aav _ (uL b h)
theorem AU (b:Int):∀{u v:List Int},u∈tv v→u++[b]∈tv (v++[b])
 | u,[],h=>by rw[tv] at h;cases h
 | u, a :: v, h => by
   rw[tv] at h;rw[abN,tv];rcases aaC.1 h with rfl|h
   · exact aaq
   · exact aav _ (AU b h)
theorem k9:∀ v:List Int,[]∈iN v
 | []=>by rw[iN];exact aaq
 | a :: v=>by rw[iN];exact aav _ (k9 v)
theorem MX (b:Int)(v:List Int):[b]∈iN (v++[b]):=uL b (k9 v)
theorem Ed (b:Int):∀v:List Int,[b]∈tv (v++[b])
 | []=>by rw[abz,tv];exact aaq
 | a :: v=>by rw[abN,tv];exact aav _ (Ed b v)
variable{P:List Int→Prop}
theorem iq (h0:P [])(hs:∀v b,P v→P (v++[b])):∀v,P v:=fun v=>by
 have:∀w:List Int,P w.reverse:=by
  intro w
  induction w with
  | nil=>exact h0
  | cons a w ih=>rw[List.reverse_cons];exact hs _ _ ih
 have h:=this v.reverse;rwa [abM] at h
def Dv (x:Rx)(v:List Int):Rx:=v.foldl (fun t b=>dR b t) x
theorem GF (x:Rx):Dv x []=x:=rfl
theorem q9 (x:Rx)(v:List Int)(b:Int):Dv x (v++[b])=dR b (Dv x v):=by unfold Dv;rw[abB];rfl
variable{x:Rx}
theorem AW (h:Nf x):∀v,Nf (Dv x v):=iq h fun v b ih=>by rw[q9];exact rO b ih
def pC (t:Rx):List Rx:=(oM t).filter fun a=>decide (3≤a.kind)
variable{t a:Rx}
theorem lM :a∈pC t↔a∈oM t∧3≤a.kind:=by unfold pC;rw[aa9,decide_eq_true_eq]
theorem GG (h:Nf t)(ha:a∈pC t):Nf a∧(a.kind=3∨a.kind=5):=by have h1:=lM.1 ha;have h2:=H9 h h1.1;have h3:=h2.1.kinds;exact⟨h2.1,acK⟩
theorem vI (h4:t.kind≠4)(ha:a∈pC t):a=t∧3≤t.kind:=by have h1:=lM.1 ha;rw[jr h4,aay] at h1;exact⟨h1.1,h1.1 ▸ h1.2⟩
theorem la (h:t.kind=3∨t.kind=5):t∈pC t:=lM.2 ⟨by rw[jr acK];exact aaq,acK⟩
variable{l:List Rx}
theorem Ee (h:∀x∈l,Nf x)(ha:a∈pC (gW l)):∃y∈l,a∈pC y:=by
 obtain⟨h1,h2⟩:=lM.1 ha;have h3:∀x∈kg (dW l),x∈dW l:=(Cb (qb _) (fun x hx=>wO h hx) fun x hx y hy=>yb (l:=l) hx hy).1;have h4:a∈kg (dW l):=by
   unfold gW wo at h1;split at h1
   · rw [jr acM, aay] at h1
     rw[h1] at h2;exact absurd h2 acM
   · next q =>
     split at h1
     · next q1 =>
       have hm:(kg (dW l)).getD 0 default∈kg (dW l):=aQ acK;rw[jr (wO h (h3 _ hm)).2.2,aay] at h1;rw[h1];exact hm
     · rw[gQ rfl] at h1;exact h1
 have h5:=tn (h3 _ h4);rw[gC] at h5;rcases h5 with h5|h5
 · obtain ⟨y, hy, hm⟩ := qe.1 (il.1 h5).1
   exact⟨y,hy,lM.2 ⟨hm,h2⟩⟩
 · rw[h5.2] at h2;exact absurd h2 (by show ¬(3:Int)≤2;decide)
theorem sm (h:(cU l).kind≠0):∀x∈l,x.kind≠0:=fun x hx e=>h (by
 unfold cU;rw[if_pos (aaQ.2 ⟨x,hx,decide_eq_true e⟩)];rfl)
theorem re (hl:∀x∈l,Nf x)(h0:(cU l).kind≠0):cw (cU l)=ek l:=by
 have hk:=sm h0;have hm:∀y∈ek l,y.kind≠0∧y.kind≠1∧y.kind≠3:=fun y hy=>by
  obtain⟨x,hx,hy⟩:=abP.1 hy;exact(H8 (hl x hx) (hk x hx) hy).2
 rw[nM fun j hj=>hk _ (aQ hj)];generalize hs:ek l=s at hm ⊢
 match s with
 | []=>rfl
 | [y]=>exact ef (hm y aaq).2.2 (hm y aaq).2.1
 | y :: z :: s=>rw[sj (by simp) (by simp)];rfl
def rA (b:Int):List Rx→List (List Rx)
 | []=>[]
 | x :: l=>if(dR b x).kind=0 then rA b l else(cw (dR b x)++l) :: rA b l
theorem Cg {b:Int}:∀{l:List Rx}{i:Nat},i<l.length→(dR b (l.getD i default)).kind≠0→cw (dR b (l.getD i default))++l.drop (i+1)∈rA b l
 | x :: l, 0, _, hk => by
   rw[rA,if_neg (show ¬(dR b x).kind=0 from hk)];exact aaq
 | x :: l, i + 1, hi, hk => by
   have h:=Cg (b:=b) (l:=l) (i:=i) (by simpa using hi) hk;rw[rA];split
   · exact h
   · exact aav _ h
theorem Ie {b:Int}:∀{l L:List Rx},L∈rA b l→∃pre x R,l=pre++x :: R∧(dR b x).kind≠0∧L=cw (dR b x)++R
 | [],L,h=>by rw[rA] at h;cases h
 | x :: l, L, h => by
   have step:L∈rA b l→∃pre y R,x :: l=pre++y :: R∧(dR b y).kind≠0∧L=cw (dR b y)++R:=fun h=>by
     obtain⟨pre,y,R,e,hk,hL⟩:=Ie h;exact⟨x :: pre,y,R,by rw[e];rfl,hk,hL⟩
   rw[rA] at h;split at h
   · exact step h
   · next hk =>
     rcases aaC.1 h with rfl|h
     · exact⟨[],x,l,rfl,hk,rfl⟩
     · exact step h
theorem Ch {b:Int}{R:List Rx}:∀{l L:List Rx},L∈rA b (l++R)→(∃M∈rA b l,L=M++R)∨L∈rA b R
 | [],L,h=>.inr h
 | x :: l, L, h => by
   have step:L∈rA b (l++R)→(∃M∈rA b (x :: l),L=M++R)∨L∈rA b R:=fun h=>by
     rcases Ch h with⟨M,hM,e⟩|h
     · refine .inl ⟨M, ?_, e⟩
       rw[rA];split
       · exact hM
       · exact aav _ hM
     · exact .inr h
   rw[abN,rA] at h;split at h
   · exact step h
   · next hk =>
     rcases aaC.1 h with rfl|h
     · refine .inl ⟨cw (dR b x) ++ l, ?_, by rw [aaY]⟩
       rw[rA,if_neg hk];exact aaq
     · exact step h
variable{c:Rx}
theorem MY (h:c∈pC t):cw c=cw t∨(cw t=[t]∧t.kind=4∧c∈pC t):=by
 by_cases h4:t.kind=4
 ·exact .inr ⟨ef acK acK,h4,h⟩
 ·rw[(vI h4 h).1];exact .inl rfl
theorem yh (h:c∈pC t):t.kind≠0:=fun e=>by have:=(vI acK h).2;omega
variable{b:Int}
theorem Tg (h:∀x∈l,Nf x):∀y∈uJ b l,Nf y:=fun y hy=>by
 obtain⟨i,hi,rfl⟩:=tt hy;refine kK fun z hz=>?_
 rcases aaC.1 hz with rfl|hz
 ·exact rO b (h _ (aQ hi))
 ·rw[aay.1 hz];exact kK fun u hu=>h u (aa0 hu)
theorem U5 {i:Nat}(hi:i<l.length)(hn:∀x∈l,Nf x)(hk:∀x∈l,x.kind≠0∧x.kind≠1∧x.kind≠3)(h0:(dQ b l i).kind≠0) :
  cw (dQ b l i)=cw (dR b (l.getD i default))++l.drop (i+1)∧(dR b (l.getD i default)).kind≠0:=by
 have hd:Nf (cU (l.drop (i+1))):=kK fun u hu=>hn u (aa0 hu)
 have h1:=sm (l:=[dR b (l.getD i default),cU (l.drop (i+1))]) h0;have h2:=h1 _ aaq;have h3:=h1 _ (aav _ aaq);refine⟨?_,h2⟩;have e:cw (dQ b l i)=ek [dR b (l.getD i default),cU (l.drop (i+1))]:=re (fun z hz=>by
  rcases aaC.1 hz with rfl|hz
  ·exact rO b (hn _ (aQ hi))
  ·rw[aay.1 hz];exact hd) h0
 rw[e];show cw _++(cw _++[])=_;rw[aaP,re (fun u hu=>hn u (aa0 hu)) h3,nU fun x hx=>(hk x (aa0 hx)).2]
theorem Ig (ha:Nf a)(hk:a.kind=3∨a.kind=5)(hc:c∈pC (dR b a)) :
  cw c∈rA b (cw a)∨∃z,[z]∈rA b (cw a)∧z.kind=4∧c∈pC z:=by
 rcases hk with hk|hk
 ·obtain⟨e,h2,hn,hkk⟩:=ha.k3 hk;have hd:dR b a=gW (uJ b a.kids):=by rw[uK acK acK,JU hk]
  rw[hd] at hc;obtain⟨y,hy,hcy⟩:=Ee (Tg hn) hc;obtain⟨i,hi,rfl⟩:=tt hy;have h3:=U5 hi hn hkk (yh hcy);have h4:=Cg hi h3.2;rw[←h3.1] at h4;rw[iM hk];rcases MY hcy with q|⟨q,q4,qc⟩
  ·exact .inl (by rw[q];exact h4)
  ·exact .inr ⟨_,by rw[←q];exact h4,q4,qc⟩
 ·have h4:cw (dR b a)∈rA b (cw a):=by
   rw[ef (x:=a) acK acK,rA,if_neg (yh hc),aaP];exact aaq
  rcases MY hc with q|⟨q,q4,qc⟩
  ·exact .inl (by rw[q];exact h4)
  ·exact .inr ⟨_,by rw[←q];exact h4,q4,qc⟩
theorem MZ (ht:Nf t)(hc:c∈pC (dR b t)):∃a∈pC t,c∈pC (dR b a):=by
 have low:∀x:Rx,Nf x→x.kind≤2→¬c∈pC (dR b x):=fun x hx h2 h=>by
  have hkk:=hx.kinds;by_cases q:x.kind=2
  ·rw[ye,if_pos q] at h;split at h
   ·exact absurd (vI acM h).2 acM
   ·exact absurd (vI acM h).2 acM
  ·rw[uK acK (fun e=>absurd e q),Ce acK acK,k8] at h;exact absurd (vI acM h).2 acM
 have hkk:=ht.kinds;by_cases h4:t.kind=4
 ·obtain⟨e,h2,hn,hk,_⟩:=ht.k4 h4;rw[uK acK acK,MU h4] at hc;obtain⟨y,hy,hcy⟩:=Ee (fun y hy=>by
   obtain⟨z,hz,rfl⟩:=aaG.1 hy;exact rO b (hn z hz)) hc
  obtain⟨z,hz,rfl⟩:=aaG.1 hy;refine⟨z,lM.2 ⟨by rw[gQ h4];exact hz,?_⟩,hcy⟩;by_cases q:3≤z.kind
  ·exact q
  ·exact absurd hcy (low z (hn z hz) acK)
 ·by_cases q:3≤t.kind
  ·exact⟨t,la acK,hc⟩
  ·exact absurd hc (low t ht acK)
def cv (x:Rx)(u:List Int)(T:List (List Rx)):List (List Rx):=if x.kind=5 then T else cw (Dv x u) :: T
mutual
def dJ:Rx→List Int→List (List Rx)
 | .mk k s l,v=>if k=4 then Ef l v else if k=3 then Eg l v else if k=5 then[.mk k s l] :: GH l v (.mk k s l) else[]
def Ef:List Rx→List Int→List (List Rx)
 | [],_=>[]
 | x :: l,v=>dJ x v++Ef l v
def Eg:List Rx→List Int→List (List Rx)
 | [],_=>[]
 | x :: l,v=>(iN v).flatMap (fun u=>(cv x u (dJ x u)).map (·++l))++Eg l v
def GH:List Rx→List Int→Rx→List (List Rx)
 | [],_,_=>[]
 | x :: _,v,r=>(tv v).flatMap fun u=>(cv x u (dJ x u)).map (·++[r])
end
theorem wQ (x:Rx)(v:List Int):dJ x v=if x.kind=4 then Ef x.kids v else if x.kind=3 then Eg x.kids v else if x.kind=5 then[x] :: GH x.kids v x else[]:=by cases x with|mk k s l=>rw[dJ];rfl
theorem Ci (h:x.kind=4)(v:List Int):dJ x v=Ef x.kids v:=by rw[wQ,if_pos h]
theorem Cj (h:x.kind=3)(v:List Int):dJ x v=Eg x.kids v:=by rw[wQ,if_neg acK,if_pos h]
theorem uM (h:x.kind=5)(v:List Int):dJ x v=[x] :: GH x.kids v x:=by rw[wQ,if_neg acK,if_neg acK,if_pos h]
theorem nu (h3:x.kind≠3)(h4:x.kind≠4)(h5:x.kind≠5)(v:List Int):dJ x v=[]:=by rw[wQ,if_neg h4,if_neg h3,if_neg h5]
theorem j5 {L:List Rx}{v:List Int}:∀{l:List Rx},L∈Ef l v↔∃x∈l,L∈dJ x v
 | []=>by rw[Ef];simp
 | x :: l=>by rw[Ef,aaU,j5];simp
theorem ir {L:List Rx}{v:List Int}:∀{l:List Rx},L∈Eg l v↔∃pre x R,l=pre++x :: R∧∃u∈iN v,∃M∈cv x u (dJ x u),L=M++R
 | [] => by
   rw[Eg];exact⟨fun h=>(by cases h),fun⟨pre,x,R,e,_⟩=>absurd e (by cases pre<;>simp)⟩
 | y :: l => by
   rw[Eg,aaU,ir];constructor
   · rintro (h | ⟨pre, x, R, e, h⟩)
     · obtain ⟨u, hu, h⟩ := abP.1 h
       obtain⟨M,hM,e⟩:=aaG.1 h;exact⟨[],y,l,rfl,u,hu,M,hM,e.symm⟩
     · exact⟨y :: pre,x,R,by rw[e];rfl,h⟩
   · rintro ⟨pre, x, R, e, h⟩
     match pre,e with
     | [], e =>
       obtain⟨rfl,rfl⟩:=abZ e;obtain⟨u,hu,M,hM,hL⟩:=h;exact .inl (abP.2 ⟨u,hu,aaG.2 ⟨M,hM,hL.symm⟩⟩)
     | z :: pre, e =>
       obtain⟨rfl,rfl⟩:=abZ e;exact .inr ⟨pre,x,R,rfl,h⟩
variable{r:Rx}
theorem mq {L:List Rx}{v:List Int}:L∈GH [x] v r↔∃u∈tv v,∃M∈cv x u (dJ x u),L=M++[r]:=by
 rw[GH,abP];constructor
 ·rintro⟨u,hu,h⟩;obtain⟨M,hM,e⟩:=aaG.1 h;exact⟨u,hu,M,hM,e.symm⟩
 ·rintro⟨u,hu,M,hM,e⟩;exact⟨u,hu,aaG.2 ⟨M,hM,e.symm⟩⟩
structure Pq (x:Rx):Prop where
 base:∀a∈pC x,cw a∈dJ x []
 exp:∀v z,[z]∈dJ x v→z.kind=4→∀a∈pC z,cw a∈dJ x v
 step:∀v b L L',L∈dJ x v→L'∈rA b L→L'∈dJ x (v++[b])
 all:∀v a,a∈pC (Dv x v)→cw a∈dJ x v
theorem Pq.mk' (hx:Nf x)(base:∀a∈pC x,cw a∈dJ x [])(exp:∀v z,[z]∈dJ x v→z.kind=4→∀a∈pC z,cw a∈dJ x v)
  (step:∀v b L L',L∈dJ x v→L'∈rA b L→L'∈dJ x (v++[b])):Pq x:=by
 refine⟨base,exp,step,iq (P:=fun v=>∀a,a∈pC (Dv x v)→cw a∈dJ x v) base fun v b ih c hc=>?_⟩;rw[q9] at hc;obtain⟨a,ha,hca⟩:=MZ (AW hx v) hc;have h1:=GG (AW hx v) ha;have h2:=ih a ha;rcases Ig h1.1 h1.2 hca with h3|⟨z,h3,h4,h5⟩
 ·exact step v b _ _ h2 h3
 ·exact exp _ z (step v b _ _ h2 h3) h4 c h5
variable{u:List Int}{M:List Rx}
theorem M3 {T:List (List Rx)}(h:M∈T):M∈cv x u T:=by
 unfold cv;split
 ·exact h
 ·exact aav _ h
theorem Th {T:List (List Rx)}(h:x.kind≠5):cw (Dv x u)∈cv x u T:=by unfold cv;rw[if_neg h];exact aaq
theorem Ih  (hx:Nf x) (hc:Pq x)   {M':List Rx} (hM:M∈cv x u (dJ x u)) (h:M'∈rA b M):M'∈cv x (u++[b]) (dJ x (u++[b])):=by
 by_cases hT:M∈dJ x u
 · exact M3 (hc.step u b _ _ hT h)
 · unfold cv at hM
   by_cases h5:x.kind=5
   · rw[if_pos h5] at hM;exact absurd hM hT
   · rw [if_neg h5] at hM
     rcases aaC.1 hM with rfl|hM
     · by_cases k3 : (Dv x u).kind = 3
       · exact absurd (hc.all u _ (la (.inl k3))) hT
       · by_cases k1 : (Dv x u).kind = 1
         · rw[mj k1,rA] at h;cases h
         · rw [ef k3 k1, rA, rA] at h
           split at h
           · cases h
           · rw [aaP, aay] at h
             rw[h,←q9];exact Th h5
     · exact absurd hM hT
theorem M4 (hx:Nf x)(hc:Pq x)(h0:(dR b x).kind≠0):cw (dR b x)∈cv x [b] (dJ x [b]):=by
 by_cases h5:x.kind=5
 ·refine M3 (hc.step [] b [x] _ ?_ ?_)
  ·rw[uM h5];exact aaq
  ·rw[rA,if_neg h0,aaP];exact aaq
 ·exact Th (x:=x) (u:=[b]) h5
theorem Ii {R:List Rx}{z:Rx}(h:[z]=M++R):(M=[]∧R=[z])∨(M=[z]∧R=[]):=by
 match M,h with
 | [],h=>exact .inl ⟨rfl,h.symm⟩
 | [y],h=>obtain⟨rfl,e⟩:=abZ h;exact .inr ⟨rfl,e.symm⟩
 | y :: y' :: M,h=>obtain⟨_,e⟩:=abZ h;cases e
theorem yi {z:Rx}(ht:Nf t)(h:cw t=[z]):t=z:=by
 by_cases k3:t.kind=3
 ·have:=(ht.k3 k3).2.1;rw[iM k3] at h;rw[h] at this;exact absurd this (by simp)
 ·by_cases k1:t.kind=1
  ·rw[mj k1] at h;cases h
  ·rw[ef k3 k1] at h;exact(abZ h).1
theorem oU  (h:Nf x):Pq x:=by
 have low:∀x:Rx,Nf x→x.kind≤2→Pq x:=fun x hx h2=>by
   have e:∀v,dJ x v=[]:=nu acK acK acK;refine Pq.mk' hx (fun a ha=>?_) (fun v z hz=>?_) fun v b L L' hL=>?_
   · have:=(vI acK ha).2;omega
   · rw[e] at hz;cases hz
   · rw[e] at hL;cases hL
 induction h with
 | none=>exact low _ .none acM
 | empty=>exact low _ .empty acM
 | set h=>exact low _ (.set h) (by show(2:Int)≤2;decide)
 | @seq l h2 hn hk ih =>
   have hx:=Nf.seq h2 hn hk;have e:∀v,dJ (.mk 3 [] l) v=Eg l v:=Cj rfl;refine Pq.mk' hx (fun a ha=>?_) (fun v z hz h4 a ha=>?_) fun v b L L' hL hL'=>?_
   · rw [(vI (by show ¬ (3 : Int) = 4; decide) ha).1, e, iM rfl]
     show l∈_
     match l,h2,hk,ih with
     | y :: l, h2, hk, ih =>
       refine ir.2 ⟨[],y,l,rfl,[],k9 _,[y],?_,rfl⟩;by_cases h5:y.kind=5
       · exact M3 (by rw[uM h5];exact aaq)
       · have := Th (x := y) (u := []) (T := dJ y []) h5
         rwa [GF,ef (hk y aaq).2.2 (hk y aaq).2.1] at this
   · rw [e] at hz ⊢
     obtain⟨pre,y,R,el,u,hu,M,hM,eM⟩:=ir.1 hz;have hy:y∈l:=by rw[el];simp
     have hc:=ih y hy;rcases Ii eM with⟨rfl,rfl⟩|⟨rfl,rfl⟩
     · have hz' : z ∈ l := by rw [el]; simp
       refine ir.2 ⟨pre++[y],z,[],by rw[el];simp,[],k9 _,cw a,M3 ((ih z hz').base a ha),by rw[aaP]⟩
     · refine ir.2 ⟨pre, y, [], el, u, hu, cw a, M3 ?_, by rw [aaP]⟩
       by_cases hT:[z]∈dJ y u
       · exact hc.exp u z hT h4 a ha
       · unfold cv at hM
         by_cases h5:y.kind=5
         · rw[if_pos h5] at hM;exact absurd hM hT
         · rw [if_neg h5] at hM
           rcases aaC.1 hM with e1|hM
           · have := yi (AW (hn y hy) u) e1.symm
             exact hc.all u a (by rw[this];exact ha)
           · exact absurd hM hT
   · rw [e] at hL ⊢
     obtain⟨pre,y,R,el,u,hu,M,hM,rfl⟩:=ir.1 hL;have hy:y∈l:=by rw[el];simp
     rcases Ch hL' with⟨M',hM',rfl⟩|hR
     · exact ir.2 ⟨pre,y,R,el,u++[b],uL b hu,M',Ih (hn y hy) (ih y hy) hM hM',rfl⟩
     · obtain ⟨pre', z, R', eR, h0, rfl⟩ := Ie hR
       have hz:z∈l:=by rw[el,eR];simp
       exact ir.2 ⟨pre++y :: pre',z,R',by rw[el,eR];simp,[b],MX b v,_,M4 (hn z hz) (ih z hz) h0,rfl⟩
 | @alt l h2 hn hk h4 h5 h6 ih =>
   have hx:=Nf.alt h2 hn hk h4 h5 h6;have e:∀v,dJ (.mk 4 [] l) v=Ef l v:=Ci rfl;refine Pq.mk' hx (fun a ha=>?_) (fun v z hz h4 a ha=>?_) fun v b L L' hL hL'=>?_
   · rw [e]
     have h1:=lM.1 ha;rw[gQ rfl] at h1;have ha':a∈l:=h1.1;have hkk:=(hn a ha').kinds;have:=hk a ha';exact j5.2 ⟨a,ha',(ih a ha').base a (la acK)⟩
   · rw [e] at hz ⊢
     obtain⟨y,hy,h⟩:=j5.1 hz;exact j5.2 ⟨y,hy,(ih y hy).exp v z h h4 a ha⟩
   · rw [e] at hL ⊢
     obtain⟨y,hy,h⟩:=j5.1 hL;exact j5.2 ⟨y,hy,(ih y hy).step v b L L' h hL'⟩
 | @star y hn hk h4 hc =>
   have hx:=Nf.star hn hk h4;have e:∀v,dJ (.mk 5 [] [y]) v=[.mk 5 [] [y]] :: GH [y] v (.mk 5 [] [y]):=uM rfl;have hself:∀v b L',L'∈rA b [Rx.mk 5 [] [y]]→L'∈dJ (.mk 5 [] [y]) (v++[b]):=fun v b L' h=>by
     rw[rA,rA] at h;split at h
     · cases h
     · next h0 =>
       rw[aaP,aay] at h;have ed:dR b (.mk 5 [] [y])=cU [dR b y,.mk 5 [] [y]]:=Ic rfl (by show 0<1;decide);rw[ed] at h h0;have hk0:=sm h0 _ aaq;rw[re (fun z hz=>by
         rcases aaC.1 hz with rfl|hz
         · exact rO b hn
         · rw[aay.1 hz];exact hx) h0] at h
       rw[h,e];refine aav _ (mq.2 ⟨[b],Ed b v,_,M4 hn hc hk0,?_⟩);show cw _++(cw _++[])=_;rw[aaP,ef (x:=.mk 5 [] [y]) (by show ¬(5:Int)=3;decide) (by show ¬(5:Int)=1;decide)]
   refine Pq.mk' hx (fun a ha=>?_) (fun v z hz h4 a ha=>?_) fun v b L L' hL hL'=>?_
   · rw[(vI (by show ¬(5:Int)=4;decide) ha).1,e,ef (by show ¬(5:Int)=3;decide) (by show ¬(5:Int)=1;decide)];exact aaq
   · rw [e] at hz
     have hz5:z.kind=5:=by
       rcases aaC.1 hz with q|q
       · rw[(abZ q).1];rfl
       · obtain ⟨u, hu, M, hM, eM⟩ := mq.1 q
         rcases Ii eM with⟨_,q⟩|⟨_,q⟩
         · rw[←(abZ q).1];rfl
         · cases q
     omega
   · rw [e] at hL
     rcases aaC.1 hL with rfl|hL
     · exact hself v b L' hL'
     · obtain ⟨u, hu, M, hM, rfl⟩ := mq.1 hL
       rcases Ch hL' with⟨M',hM',rfl⟩|hR
       · rw [e]
         exact aav _ (mq.2 ⟨u++[b],AU b hu,M',Ih hn hc hM hM',rfl⟩)
       · exact hself v b L' hR
inductive dM (P:List Int→Prop):List Int→Prop
 | nil:dM P []
 | cons {u v:List Int}:P u→dM P v→dM P (u++v)
mutual
def fb:Rx→List Int→Prop
 | .mk k s l=>fun w=>if k=1 then w=[] else if k=2 then ∃a,w=[a]∧a∈s else if k=3 then kh l w else if k=4 then zN l w else if k=5 then Eh l w else False
def kh:List Rx→List Int→Prop
 | []=>fun w=>w=[]
 | x :: l=>fun w=>∃u v,w=u++v∧fb x u∧kh l v
def zN:List Rx→List Int→Prop
 | []=>fun _=>False
 | x :: l=>fun w=>fb x w∨zN l w
def Eh:List Rx→List Int→Prop
 | []=>fun w=>w=[]
 | x :: _=>fun w=>dM (fb x) w
end
theorem sn (r:Rx)(w:List Int):fb r w=(if r.kind=1 then w=[] else if r.kind=2 then ∃a,w=[a]∧a∈r.syms else if r.kind=3 then kh r.kids w else if r.kind=4 then zN r.kids w else
 if r.kind=5 then Eh r.kids w else False):=by cases r with|mk k s l=>rw[fb];rfl
theorem mX (h:r.kind=0)(w:List Int):¬fb r w:=by rw[sn,if_neg acK,if_neg acK,if_neg acK,if_neg acK,if_neg acK];exact id
theorem mr (h:r.kind=1)(w:List Int):fb r w↔w=[]:=by rw[sn,if_pos h]
theorem nW (h:r.kind=2)(w:List Int):fb r w↔∃a,w=[a]∧a∈r.syms:=by rw[sn,if_neg acK,if_pos h]
theorem vJ (h:r.kind=3)(w:List Int):fb r w↔kh r.kids w:=by rw[sn,if_neg acK,if_neg acK,if_pos h]
theorem tw (h:r.kind=4)(w:List Int):fb r w↔zN r.kids w:=by rw[sn,if_neg acK,if_neg acK,if_neg acK,if_pos h]
theorem vK (h:r.kind=5)(w:List Int):fb r w↔Eh r.kids w:=by rw[sn,if_neg acK,if_neg acK,if_neg acK,if_neg acK,if_pos h]
theorem iu (w:List Int):kh [] w↔w=[]:=by rw[kh]
theorem dT (x:Rx)(l:List Rx)(w:List Int):kh (x :: l) w↔∃u v,w=u++v∧fb x u∧kh l v:=by rw[kh]
theorem gD {w:List Int}:∀{l:List Rx},zN l w↔∃x∈l,fb x w
 | []=>by rw[zN];simp
 | x :: l=>by rw[zN];show fb x w∨zN l w↔_;rw[gD];simp
theorem mu (x:Rx)(w:List Int):Eh [x] w↔dM (fb x) w:=by rw[Eh]
theorem iY (x:Rx)(w:List Int):kh [x] w↔fb x w:=by
 rw[dT];constructor
 ·rintro⟨u,v,rfl,hu,hv⟩;rw[iu] at hv;rw[hv,aaP];exact hu
 ·exact fun h=>⟨w,[],(aaP w).symm,h,(iu _).2 rfl⟩
theorem qh:∀ {l m:List Rx}{w:List Int},kh (l++m) w↔∃u v,w=u++v∧kh l u∧kh m v
 | [], m, w => by
   rw[abz];constructor
   · exact fun h=>⟨[],w,rfl,(iu _).2 J,h⟩
   · rintro ⟨u, v, rfl, hu, hv⟩
     rw[iu] at hu;rw[hu];exact hv
 | x :: l, m, w => by
   rw[abN,dT];constructor
   · rintro ⟨u, v, rfl, hu, hv⟩
     obtain⟨u',v',rfl,hu',hv'⟩:=qh.1 hv;exact⟨u++u',v',(aaY _ _ _).symm,(dT _ _ _).2 ⟨u,u',rfl,hu,hu'⟩,hv'⟩
   · rintro ⟨u, v, rfl, hu, hv⟩
     obtain⟨u',v',rfl,hu',hv'⟩:=(dT _ _ _).1 hu;exact⟨u',v'++v,aaY _ _ _,hu',qh.2 ⟨v',v,rfl,hv',hv⟩⟩
variable{Q:List Int→Prop}{w:List Int}
theorem dM.mono (h:∀w,P w→dM Q w)(hw:dM P w):dM Q w:=by
 have app:∀{u v:List Int},dM Q u→dM Q v→dM Q (u++v):=fun{u v} hu hv=>by
  induction hu with
  | nil=>exact hv
  | cons h1 _ ih=>rw[aaY];exact .cons h1 ih
 induction hw with
 | nil=>exact .nil
 | cons h1 _ ih=>exact app (h _ h1) ih
theorem dM.one (h:P w):dM P w:=by have:=dM.cons h .nil;rwa [aaP] at this
theorem dM.congr (h:∀w,P w↔Q w)(w:List Int):dM P w↔dM Q w :=
 ⟨dM.mono fun w hw=>.one ((h w).1 hw),dM.mono fun w hw=>.one ((h w).2 hw)⟩
theorem dM.none (h:∀w,P w→w=[])(hw:dM P w):w=[]:=by
 induction hw with
 | nil=>rfl
 | cons h1 _ ih=>rw[h _ h1,ih];rfl
theorem dM.head {a:Int}:dM P (a :: w)↔∃u v,w=u++v∧P (a :: u)∧dM P v:=by
 constructor
 · intro h
   have:∀z,dM P z→z=a :: w→∃u v,w=u++v∧P (a :: u)∧dM P v:=by
     intro z hz
     induction hz with
     | nil=>intro e;cases e
     | @cons u v h1 h2 ih =>
       intro e
       match u,e with
       | [],e=>exact ih e
       | b :: u, e =>
         obtain⟨rfl,e2⟩:=abZ e;exact⟨u,v,e2.symm,h1,h2⟩
   exact this _ h J
 · rintro ⟨u, v, rfl, h1, h2⟩
   exact .cons (u:=a :: u) h1 h2
theorem dM.rev (h:∀w,P w→Q w.reverse)(hw:dM P w):dM Q w.reverse:=by
 have app:∀{u v:List Int},dM Q u→dM Q v→dM Q (u++v):=fun{u v} hu hv=>by
  induction hu with
  | nil=>exact hv
  | cons h1 _ ih=>rw[aaY];exact .cons h1 ih
 induction hw with
 | nil=>exact .nil
 | cons h1 _ ih=>rw[List.reverse_append];exact app ih (.one (h _ h1))
theorem wR (x:Rx):cO x=true↔fb x []:=by
 refine Cd (P:=fun x=>cO x=true↔fb x []) (fun x ih=>?_) x;rw[qR];by_cases h3:x.kind=3
 · rw [if_pos h3, vJ h3]
   have:∀l:List Rx,(∀x∈l,cO x=true↔fb x [])→(l.all cO=true↔kh l []):=by
     intro l
     induction l with
     | nil=>intro _;rw[iu];simp
     | cons y l ihl =>
       intro h;have h1:=ihl fun z hz=>h z (aav _ hz)
       rw[List.all_cons,aax,h y aaq,h1,dT];constructor
       · exact fun h=>⟨[],[],rfl,h.1,h.2⟩
       · rintro ⟨u, v, e, hu, hv⟩
         have e':=List.append_eq_nil_iff.1 e.symm;rw[e'.1] at hu;rw[e'.2] at hv;exact⟨hu,hv⟩
   exact this _ ih
 · rw [if_neg h3]
   by_cases h4:x.kind=4
   · rw [if_pos h4, tw h4, gD, aaQ]
     exact exists_congr fun y=>and_congr_right fun hy=>ih y hy
   · rw [if_neg h4, decide_eq_true_eq]
     by_cases h1:x.kind=1
     · rw[mr h1];exact⟨fun _=>rfl,fun _=>.inl h1⟩
     · by_cases h5 : x.kind = 5
       · rw [vK h5]
         refine⟨fun _=>?_,fun _=>.inr h5⟩
         match x.kids with
         | []=>rw[Eh]
         | y :: l=>rw[Eh];exact .nil
       · refine ⟨fun h => absurd h acK, fun h => ?_⟩
         by_cases h2:x.kind=2
         · obtain ⟨a, e, _⟩ := (nW h2 _).1 h
           cases e
         · rw[sn,if_neg h1,if_neg h2,if_neg h3,if_neg h4,if_neg h5] at h;cases h
theorem M5 (x:Rx)(w:List Int):kh (cw x) w↔fb x w:=by
 by_cases h3:x.kind=3
 ·rw[iM h3,vJ h3]
 ·by_cases h1:x.kind=1
  ·rw[mj h1,iu,mr h1]
  ·rw[ef h3 h1,iY]
theorem Ei:∀ (l:List Rx)(w:List Int),kh (ek l) w↔kh l w
 | [],w=>Iff.rfl
 | x :: l, w => by
   have e:ek (x :: l)=cw x++ek l:=rfl;rw[e,qh,dT];exact exists_congr fun u=>exists_congr fun v=>and_congr_right fun _=>and_congr (M5 x u) (Ei l v)
theorem M6 (h:kh l w):∀x∈l,∃u,fb x u:=by
 induction l generalizing w with
 | nil=>intro x hx;cases hx
 | cons y l ih =>
   obtain⟨u,v,rfl,hu,hv⟩:=(dT _ _ _).1 h;intro x hx;rcases aaC.1 hx with rfl|hx
   · exact⟨u,hu⟩
   · exact ih hv x hx
theorem qi (l:List Rx)(w:List Int):fb (cU l) w↔kh l w:=by
 unfold cU;by_cases h:l.any (fun x=>decide (x.kind=0))=true
 ·rw[if_pos h];obtain⟨x,hx,h0⟩:=aaQ.1 h;refine⟨fun q=>absurd q (mX J w),fun q=>?_⟩;obtain⟨u,hu⟩:=M6 q x hx;exact absurd hu (mX (of_decide_eq_true h0) u)
 ·rw[if_neg h,←Ei l];generalize ek l=s
  match s with
  | []=>exact(mr (r:=eG) rfl w).trans (iu w).symm
  | [y]=>exact(iY y w).symm
  | y :: z :: s=>rw[sj (by simp) (by simp)];exact vJ rfl w
theorem M7 (k:List Rx)(w:List Int):fb (wo k) w↔∃x∈k,fb x w:=by
 match k with
 | []=>exact⟨fun h=>absurd h (mX rfl w),fun⟨x,hx,_⟩=>by cases hx⟩
 | [y]=>exact⟨fun h=>⟨y,aaq,h⟩,fun⟨x,hx,h⟩=>by rw[aay.1 hx] at h;exact h⟩
 | y :: z :: k=>rw[x5 (by simp) (by simp)];exact(tw rfl w).trans gD
theorem Ej (x:Rx)(w:List Int):(∃y∈oM x,fb y w)↔fb x w:=by
 by_cases h4:x.kind=4
 ·rw[gQ h4,tw h4,gD]
 ·rw[jr h4];exact⟨fun⟨y,hy,h⟩=>by rw[aay.1 hy] at h;exact h,fun h=>⟨x,aaq,h⟩⟩
theorem tx (w:List Int):fb (gW l) w↔∃x∈l,fb x w:=by
 have hC : (∃ x ∈ kg (dW l), fb x w) ↔ ∃ x ∈ dW l, fb x w := by
   by_cases h:1<(dW l).length∧((dW l).getD 0 default).kind=1∧((dW l).drop 1).any cO=true
   · rw [x6 h.1 h.2.1 h.2.2]
     constructor
     · exact fun⟨x,hx,hs⟩=>⟨x,aa0 hx,hs⟩
     · rintro ⟨x, hx, hs⟩
       by_cases e:x=(dW l).getD 0 default
       · obtain ⟨y, hy, ha⟩ := aaQ.1 h.2.2
         rw[e,mr h.2.1] at hs;exact⟨y,hy,by rw[hs];exact(wR y).1 ha⟩
       · exact⟨x,nS hx e,hs⟩
   · rw[mn h]
 unfold gW;rw[M7,hC];have hL:(∃x∈aX l,fb x w)↔∃x∈l,fb x w:=by
   constructor
   · rintro ⟨x, hx, hs⟩
     obtain⟨y,hy,hxy⟩:=qe.1 hx;exact⟨y,hy,(Ej y w).1 ⟨x,hxy,hs⟩⟩
   · rintro ⟨y, hy, hs⟩
     obtain⟨x,hx,hs⟩:=(Ej y w).2 hs;exact⟨x,qe.2 ⟨y,hy,hx⟩,hs⟩
 rw[←hL];constructor
 · rintro ⟨x, hx, hs⟩
   have h1:=tn hx;rw[gC] at h1;rcases h1 with h1|⟨_,rfl⟩
   · exact⟨x,(il.1 h1).1,hs⟩
   · obtain ⟨a, ha, hm⟩ := (nW rfl w).1 hs
     have hm':a∈uH (c8 l):=hm;obtain⟨y,hy,hk,hz⟩:=k7.1 (k6.1 hm');exact⟨y,hy,(nW hk w).2 ⟨a,ha,hz⟩⟩
 · rintro ⟨x, hx, hs⟩
   by_cases h0:x.kind=0
   · exact absurd hs (mX h0 w)
   · by_cases h2 : x.kind = 2
     · obtain ⟨a, ha, hm⟩ := (nW h2 w).1 hs
       have hz:a∈c8 l:=k7.2 ⟨x,hx,h2,hm⟩;refine⟨.mk 2 (uH (c8 l)) [],?_,(nW J w).2 ⟨a,ha,k6.2 hz⟩⟩;rw[j4,j3,gC];exact .inr ⟨abA.2 ⟨a,hz⟩,rfl⟩
     · refine ⟨x, ?_, hs⟩
       rw[j4,j3,gC];exact .inl (il.2 ⟨hx,h0,h2⟩)
theorem AX  (h:Nf x) (w:List Int):fb (lA x) w↔dM (fb x) w:=by
 by_cases h01:x.kind=0∨x.kind=1
 · rw [wI h01, mr rfl]
   refine⟨fun e=>by rw[e];exact .nil,fun q=>dM.none (fun u hu=>?_) q⟩;rcases h01 with k|k
   · exact absurd hu (mX k u)
   · exact(mr k u).1 hu
 · by_cases h5 : x.kind = 5
   · obtain ⟨y, e, _⟩ := h.k5 h5
     rw[wJ h5];have hy:∀w,fb x w↔dM (fb y) w:=fun w=>by rw[e];exact(vK rfl w).trans (mu y w)
     exact⟨dM.one,fun q=>(hy w).2 (dM.mono (fun u hu=>(hy u).1 hu) q)⟩
   · rw [oR h01 h5]
     refine(vK J w).trans ((mu _ w).trans ?_);by_cases q:x.kind=4∧(x.kids.getD 0 default).kind=1
     · obtain ⟨e, h2, hn, hk4, hs, ht, ha⟩ := h.k4 q.1
       have hx:∀u,fb x u↔∃y∈x.kids,fb y u:=fun u=>(tw q.1 u).trans gD
       have hd:∀u,(∃y∈x.kids,fb y u)↔u=[]∨∃y∈x.kids.drop 1,fb y u:=fun u=>by
         constructor
         · rintro ⟨y, hy, hs⟩
           by_cases e:y=x.kids.getD 0 default
           · rw[e,mr q.2] at hs;exact .inl hs
           · exact .inr ⟨y,nS hy e,hs⟩
         · rintro (rfl | ⟨y, hy, hs⟩)
           · exact⟨_,aQ (i:=0) acK,(mr q.2 _).2 J⟩
           · exact⟨y,aa0 hy,hs⟩
       have hB:∀u,fb (pZ x) u↔∃y∈x.kids.drop 1,fb y u:=fun u=>by
         by_cases q2:x.kids.length=2
         · rw [wL q q2]
           have hl:x.kids.drop 1=[x.kids.getD 1 default]:=by rw[drop_cons acK,abh acK]
           rw[hl];exact⟨fun h=>⟨_,aaq,h⟩,fun⟨y,hy,h⟩=>by rw[aay.1 hy] at h;exact h⟩
         · rw [wM q q2]
           exact(tw (r:=.mk x.kind x.syms (x.kids.drop 1)) q.1 u).trans gD
       constructor
       · exact dM.mono fun u hu=>.one ((hx u).2 ((hd u).2 (.inr ((hB u).1 hu))))
       · refine dM.mono fun u hu => ?_
         rcases(hd u).1 ((hx u).1 hu) with rfl|hu
         · exact .nil
         · exact .one ((hB u).2 hu)
     · rw[qY q]
theorem Ti (a:Int)(h:Nf x):∀w,fb (dR a x) w↔fb x (a :: w):=by
 induction h with
 | none=>exact fun w=>by rw[uK acM (fun h=>by cases h),Ce acM acM,k8];exact⟨fun q=>absurd q (mX rfl w),fun q=>absurd q (mX rfl _)⟩
 | empty=>exact fun w=>by rw[uK acM (fun h=>by cases h),Ce acM acM,k8];exact⟨fun q=>absurd q (mX rfl w),fun q=>absurd ((mr rfl _).1 q) (by simp)⟩
 | @set s h =>
   intro w;rw[ye,if_pos (show(Rx.mk 2 s []).kind=2 from rfl),nW (r:=.mk 2 s []) rfl];show fb (if a∈s then _ else _) w↔∃b,_∧b∈s;by_cases q:a∈s
   · rw [if_pos q, mr rfl]
     constructor
     · rintro rfl;exact⟨a,rfl,q⟩
     · rintro⟨b,e,_⟩;exact(abZ e).2
   · rw [if_neg q]
     refine⟨fun h=>absurd h (mX J w),fun⟨b,e,hb⟩=>?_⟩;rw[(abZ e).1] at q;exact absurd hb q
 | @seq l h2 hn hk ih =>
   intro w;rw[uK (by simp[Rx.kind]) (by simp[Rx.kind]),JU rfl,tx,vJ rfl];show(∃x∈uJ a l,_)↔kh l _;clear h2 hk
   induction l with
   | nil =>
     rw[uJ,iu];exact⟨fun⟨x,hx,_⟩=>(by cases hx),fun e=>(by cases e)⟩
   | cons x l ihl =>
     have h1:=ihl (fun y hy=>hn y (aav _ hy)) fun y hy=>ih y (aav _ hy)
     have h2:fb (cU [dR a x,cU l]) w↔∃u v,w=u++v∧fb x (a :: u)∧kh l v:=by
       rw[qi,dT];refine exists_congr fun u=>exists_congr fun v=>and_congr_right fun _=>and_congr (ih x aaq u) ?_
       rw[iY,qi]
     rw[uJ,dT];constructor
     · rintro ⟨y, hy, hs⟩
       rcases aaC.1 hy with rfl|hy
       · obtain ⟨u, v, rfl, hu, hv⟩ := h2.1 hs
         exact⟨a :: u,v,rfl,hu,hv⟩
       · split at hy
         · next ha=>exact⟨[],a :: w,rfl,(wR x).1 ha,h1.1 ⟨y,hy,hs⟩⟩
         · cases hy
     · rintro ⟨u, v, e, hu, hv⟩
       match u,e with
       | [], e =>
         have e':v=a :: w:=e.symm;rw[e'] at hv;obtain⟨y,hy,hs⟩:=h1.2 hv;exact⟨y,aav _ (by rw[if_pos ((wR x).2 hu)];exact hy),hs⟩
       | b :: u, e =>
         obtain⟨rfl,e2⟩:=abZ e;exact⟨_,aaq,h2.2 ⟨u,v,e2,hu,hv⟩⟩
 | @alt l h2 hn hk h4 h5 h6 ih =>
   intro w;rw[uK (by simp[Rx.kind]) (by simp[Rx.kind]),MU rfl,tx,tw rfl,gD];show(∃x∈l.map (dR a),_)↔∃x∈l,_;constructor
   · rintro ⟨y, hy, hs⟩
     obtain⟨z,hz,rfl⟩:=aaG.1 hy;exact⟨z,hz,(ih z hz w).1 hs⟩
   · rintro ⟨z, hz, hs⟩
     exact⟨_,aaG.2 ⟨z,hz,rfl⟩,(ih z hz w).2 hs⟩
 | @star y hn hk h4 ih =>
   intro w;have hs:∀w,fb (.mk 5 [] [y]) w↔dM (fb y) w:=fun w=>(vK rfl w).trans (mu y w)
   rw[Ic rfl (by show 0<1;decide),qi,dT,hs,dM.head];refine exists_congr fun u=>exists_congr fun v=>and_congr_right fun _=>and_congr (ih u) ?_
   rw[iY,hs]
theorem Tj (h:Nf x):∀u w,fb (Dv x u) w↔fb x (u++w):=fun u=>by refine iq (P:=fun u=>∀w,fb (Dv x u) w↔fb x (u++w)) (fun w=>Iff.rfl) (fun u b ih w=>?_) u;rw[q9,Ti b (AW h u),ih,aaY];rfl
theorem Tk (h:Nf x)(u:List Int):cO (Dv x u)=true↔fb x u:=by rw[wR,Tj h,aaP]
theorem Ek {f:Rx→Rx}:∀{l:List Rx},(∀x∈l,∀w,fb (f x) w↔fb x w)→∀w,kh (l.map f) w↔kh l w
 | [],_,w=>Iff.rfl
 | x :: l, h, w => by
   rw[aa6,dT,dT];exact exists_congr fun u=>exists_congr fun v=>and_congr_right fun _=>and_congr (h x aaq u) (Ek (fun y hy=>h y (aav _ hy)) v)
theorem El {f:Rx→Rx}:∀{l:List Rx},(∀x∈l,∀w,fb (f x) w↔fb x w.reverse)→∀w,kh (l.map f).reverse w↔kh l w.reverse
 | [], _, w => by
   rw[abu,List.reverse_nil,iu,iu,List.reverse_eq_nil_iff]
 | x :: l, h, w => by
   rw[aa6,List.reverse_cons,qh,dT];have ih:=El (l:=l) fun y hy=>h y (aav _ hy)
   constructor
   · rintro ⟨u, v, rfl, hu, hv⟩
     rw[iY] at hv;exact⟨v.reverse,u.reverse,List.reverse_append,(h x aaq v).1 hv,(ih u).1 hu⟩
   · rintro ⟨u, v, e, hu, hv⟩
     refine⟨v.reverse,u.reverse,?_,(ih _).2 (by rw[abM];exact hv),(iY _ _).2 ((h x aaq _).2 (by rw[abM];exact hu))⟩;rw[←List.reverse_append,←e,abM]
theorem AY (r:Rx):aR r=true→(∀ w,fb (aL false r) w↔fb r w)∧∀ w,fb (aL true r) w↔fb r w.reverse:=by
 refine Cd (P:=fun r=>aR r=true→(∀w,fb (aL false r) w↔fb r w)∧∀w,fb (aL true r) w↔fb r w.reverse) (fun r ih hv=>?_) r;have hf:∀x∈r.kids,∀w,fb (aL false x) w↔fb x w:=fun x hx=>(ih x hx (im hv x hx)).1
 have ht:∀x∈r.kids,∀w,fb (aL true x) w↔fb x w.reverse:=fun x hx=>(ih x hx (im hv x hx)).2
 by_cases h3:r.kind=3
 · exact⟨fun w=>by rw[lW h3,qi,vJ h3,Ek hf],fun w=>by rw[nQ h3,qi,vJ h3,El ht]⟩
 · by_cases h4 : r.kind = 4
   · have hm : ∀ t w, (∃ x ∈ r.kids.map (aL t), fb x w) ↔ ∃ x ∈ r.kids, fb (aL t x) w := fun t w =>
       ⟨fun⟨y,hy,hs⟩=>by obtain⟨z,hz,rfl⟩:=aaG.1 hy;exact⟨z,hz,hs⟩,fun⟨z,hz,hs⟩=>⟨_,aaG.2 ⟨z,hz,rfl⟩,hs⟩⟩
     exact⟨fun w=>by rw[kY h4,tx,hm,tw h4,gD];exact exists_congr fun x=>and_congr_right fun hx=>hf x hx w,
       fun w=>by rw[kY h4,tx,hm,tw h4,gD];exact exists_congr fun x=>and_congr_right fun hx=>ht x hx w⟩
   · by_cases h5 : r.kind = 5
     · obtain ⟨y, hy⟩ := List.length_eq_one_iff.1 (lL hv h5).2
       have hm:y∈r.kids:=by rw[hy];exact aaq
       have hb:=fun t=>qg t y (im hv y hm)
       have e:∀t,(r.kids.map (aL t)).getD 0 default=aL t y:=fun t=>by rw[hy];rfl
       refine⟨fun w=>?_,fun w=>?_⟩
       · rw [kZ h5, e, AX (hb _), vK h5, hy, mu]
         exact dM.congr (hf y hm) w
       · rw [kZ h5, e, AX (hb _), vK h5, hy, mu]
         constructor
         · exact dM.rev fun u hu=>(ht y hm u).1 hu
         · intro q
           have:=dM.rev (Q:=fb (aL true y)) (fun u hu=>(ht y hm _).2 (by rw[abM];exact hu)) q;rwa [abM] at this
     · have hk := qf hv
       have e:∀t w,fb (aL t r) w↔fb r w:=fun t w=>by
         rw[j2 h3 h4 h5];by_cases h1:r.kind=1
         · rw[mr h1,mr (r:=.mk r.kind r.syms []) h1]
         · by_cases h2 : r.kind = 2
           · rw[nW h2,nW (r:=.mk r.kind r.syms []) h2];exact Iff.rfl
           · exact⟨fun q=>absurd q (mX (r:=.mk r.kind r.syms []) (by show r.kind=0;omega) w),fun q=>absurd q (mX acK _)⟩
       refine⟨e false,fun w=>(e true w).trans ?_⟩;by_cases h1:r.kind=1
       · rw[mr h1,mr h1,List.reverse_eq_nil_iff]
       · by_cases h2 : r.kind = 2
         · rw [nW h2, nW h2]
           refine exists_congr fun a=>and_congr_left fun _=>?_
           constructor
           · rintro rfl;rfl
           · intro q
             have:=congrArg List.reverse q;rwa [abM] at this
         · exact⟨fun q=>absurd q (mX acK w),fun q=>absurd q (mX acK _)⟩
theorem Tl (r:Rx)(w:List Int)(k:Nat):JX r w k=Dv (dv r) (w.take k):=rfl
theorem yj (r:Rx)(w:List Int):sk r w=cO (Dv (dv r) w):=by unfold sk;rw[Tl,abj]
theorem lX (hv:aR r=true)(w:List Int):sk r w=true↔fb r w:=by rw[yj,Tk (q8 r)];unfold dv;rw[if_pos hv];exact(AY r hv).1 w
end Go.Wb
