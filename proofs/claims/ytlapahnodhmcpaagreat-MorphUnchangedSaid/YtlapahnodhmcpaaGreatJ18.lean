/-
  Part of the proof.
-/
import Derived.Test.YtlapahnodhmcpaaGreatJ0
import Derived.Test.YtlapahnodhmcpaaGreatJ17
set_option linter.unusedVariables false
set_option linter.unusedSectionVars false
set_option linter.unusedSimpArgs false
set_option maxRecDepth 100000
set_option maxHeartbeats 40000000
namespace Go.Wb
open Go.Am
variable{i j:Nat}
section
variable {α:Type} [Inhabited α]{le eq:α→α→Bool}
def qa (le:α→α→Bool)(l:List α):Prop:=l.Pairwise fun x y=>le x y=true∧x≠y
theorem qZ (an:∀a b,le a b=true→le b a=true→a=b):∀{l m:List α},qa le l→qa le m→(∀x,x∈l↔x∈m)→l=m
 | [],[],_,_,_=>rfl
 | [],y :: m,_,_,h=>absurd ((h y).2 aaq) (by simp)
 | x :: l,[],_,_,h=>absurd ((h x).1 aaq) (by simp)
 | x :: l, y :: m, hl, hm, h => by
   have hl':=aa2.1 hl;have hm':=aa2.1 hm;have e:x=y:=by
     rcases aaC.1 ((h x).1 aaq) with q|q
     · exact q
     · rcases aaC.1 ((h y).2 aaq) with q' | q'
       · exact q'.symm
       · exact an _ _ (hl'.1 _ q').1 (hm'.1 _ q).1
   subst e;rw[qZ an hl'.2 hm'.2 fun z=>⟨fun hz=>?_,fun hz=>?_⟩]
   · rcases aaC.1 ((h z).1 (aav _ hz)) with q | q
     · exact absurd q.symm (hl'.1 _ hz).2
     · exact q
   · rcases aaC.1 ((h z).2 (aav _ hz)) with q | q
     · exact absurd q.symm (hm'.1 _ hz).2
     · exact q
theorem dp {l:List α}(h:i<l.length):l.getD i default=l[i]:=by rw[aag,aal h];rfl
theorem jG {R:α→α→Prop}{l:List α}(h:l.Pairwise R)(hij:i<j)(hj:j<l.length):R (l.getD i default) (l.getD j default):=by rw[dp acK,dp hj];exact abX.1 h i j acK hj hij
theorem rN {l:List α}{a:α}(h:a∈l.take i):∃j,j<i∧j<l.length∧a=l.getD j default:=by obtain⟨j,hj,e⟩:=abd h;rw[aau] at hj;refine⟨j,acK,acK,?_⟩;rw[dp acK,←e,List.getElem_take]
theorem getD_mem_take {l:List α}(h:j<i)(hj:j<l.length):l.getD j default∈l.take i:=by rw[dp hj];exact List.mem_take_iff_getElem.2 ⟨j,acK,rfl⟩
theorem D7 (an:∀a b,le a b=true→le b a=true→a=b)(heq:∀a b,eq a b=true↔a=b){l:List α}(h:l.Pairwise fun x y=>le x y=true) :
   ∀i,i≤l.length→qa le (en eq l i)∧∀x,x∈en eq l i↔x∈l.take i
 | 0,_=>⟨.nil,fun x=>by simp[en]⟩
 | i + 1, hi => by
   obtain⟨h1,h2⟩:=D7 an heq h i acK;by_cases q:0<i∧eq (l.getD i default) (l.getD (i-1) default)=true
   · rw [nN q.1 q.2]
     refine⟨h1,fun x=>?_⟩;rw[h2,bD acK,aaU,aay];refine⟨.inl,fun hx=>hx.elim id fun hx=>?_⟩;rw[hx,(heq _ _).1 q.2];exact getD_mem_take acK acK
   · rw [en, if_neg q]
     refine⟨List.pairwise_append.2 ⟨h1,abR _ _,fun a ha b hb=>?_⟩,fun x=>by rw[bD acK,aaU,aaU,h2]⟩;rw[aay] at hb;subst hb;obtain⟨j,hj,hj',rfl⟩:=rN ((h2 a).1 ha);refine⟨jG h hj acK,fun e=>q ⟨acK,(heq _ _).2 ?_⟩⟩;by_cases e1:j=i-1
     · rw[←e1];exact e.symm
     · refine an _ _ ?_ (jG h acK acK)
       rw[←e];exact jG h acK acK
theorem wN (an:∀a b,le a b=true→le b a=true→a=b)(heq:∀a b,eq a b=true↔a=b){l:List α}(h:l.Pairwise fun x y=>le x y=true) :
  qa le (sO eq l)∧∀x,x∈sO eq l↔x∈l:=by
 have h1:=D7 an heq h l.length (aak _);rw[abj] at h1;exact h1
end
theorem H7 (a b:Rx):H5 a b=true↔a=b:=by show decide _=true↔_;rw[decide_eq_true_eq];exact⟨iG _ _,fun e=>by rw[e,AL]⟩
def Ta (k:List Rx):List Rx:=sO H5 (j1 k)
def uH (s:List Int):List Int:=sO Pp (jF s)
theorem D8 (k:List Rx):(j1 k).Pairwise fun x y=>rz x y=true:=tm MH MI k
theorem D9 (s:List Int):(jF s).Pairwise fun x y=>FW x y=true:=tm MJ MK s
theorem qb (k:List Rx):qa rz (Ta k):=(wN x4 H7 (D8 k)).1
variable{x:Rx}
theorem j3 {k:List Rx}:x∈Ta k↔x∈k:=((wN x4 H7 (D8 k)).2 x).trans lV
theorem qd (s:List Int):qa FW (uH s):=(wN uG (fun a b=>decide_eq_true_iff) (D9 s)).1
variable{s:List Int}
theorem JQ {x:Int}:x∈jF s↔x∈s:=(jq s).mem_iff
theorem k6 {x:Int}:x∈uH s↔x∈s:=((wN uG (fun a b=>decide_eq_true_iff) (D9 s)).2 x).trans JQ
theorem MQ {t:List Int}(h:∀x,x∈s↔x∈t):uH s=uH t:=qZ uG (qd s) (qd t) fun x=>by rw[k6,k6];exact h x
theorem JR (h:qa FW s):uH s=s:=qZ uG (qd s) h fun x=>k6
theorem jH :jY s=true↔0<s.length∧qa FW s∧∀x∈s,0≤x∧x<64:=by
 unfold jY;rw[decide_eq_true_eq];refine⟨fun⟨h0,h⟩=>⟨h0,?_,fun x hx=>?_⟩,fun⟨h0,h1,h2⟩=>⟨h0,fun j hj=>?_⟩⟩
 · have hlt : ∀ (n i j : Nat), j = i + n + 1 → j < s.length → s.getD i default < s.getD j default := by
     intro n
     induction n with
     | zero =>
       intro i j e hj;have:=(h j hj).2.2 acK;rwa [show((j:Int)-1).toNat=i by omega] at this
     | succ n ih =>
       intro i j e hj;have h1:=ih i (j-1) acK acK;have:=(h j hj).2.2 acK;rw[show((j:Int)-1).toNat=j-1 by omega] at this;omega
   refine abX.2 fun i j hi hj hij=>?_
   have:=hlt (j-i-1) i j acK hj;rw[dp hi,dp hj] at this;exact⟨decide_eq_true acK,acK⟩
 · obtain ⟨j, hj, e⟩ := abd hx
   have:=h j hj;unfold wm at this;rw[dp hj,e] at this;exact⟨this.1,this.2.1⟩
 · unfold wm
   refine⟨(h2 _ (by rw[dp hj];exact abp hj)).1,(h2 _ (by rw[dp hj];exact abp hj)).2,fun q=>?_⟩;have h3:=jG h1 (i:=((j:Int)-1).toNat) (j:=j) acK hj;have h4:=of_decide_eq_true h3.1;have h5:=h3.2;omega
theorem tp (l:List Rx):eZ l=l.filter fun x=>!decide (x.kind=0∨x.kind=2):=by
 have:∀(l m:List Rx),l.foldl fY m=m++l.filter fun x=>!decide (x.kind=0∨x.kind=2):=by
   intro l
   induction l with
   | nil=>intro m;simp
   | cons x l ih =>
     intro m;rw[ab4,ih];by_cases h:x.kind=0∨x.kind=2
     · rw[Gx h,ab2 (by simp[h])]
     · rw[MG h,ack (by simp[h]),aaY];rfl
 exact this l []
variable{l:List Rx}
theorem JS :x∈eZ l↔x∈l∧x.kind≠0∧x.kind≠2:=by rw[tp,aa9,aa5,decide_eq_false_iff_not];exact⟨fun h=>⟨h.1,fun e=>h.2 (.inl e),fun e=>h.2 (.inr e)⟩,fun h=>⟨h.1,fun e=>e.elim h.2.1 h.2.2⟩⟩
variable{z:Int}
theorem JT :z∈c7 l↔∃x∈l,x.kind=2∧z∈x.syms:=by
 have:∀(l:List Rx)(s:List Int),z∈l.foldl oO s↔z∈s∨∃x∈l,x.kind=2∧z∈x.syms:=by
   intro l
   induction l with
   | nil=>intro s;simp
   | cons x l ih =>
     intro s;rw[ab4,ih];by_cases h:x.kind=2
     · rw[uD h,aaU];simp[h,or_assoc]
     · rw[p9 h];simp[h]
 exact(this l []).trans (by simp)
theorem qe :x∈aX l↔∃y∈l,x∈oM y:=abP
theorem il :x∈dV l↔x∈aX l∧x.kind≠0∧x.kind≠2:=JS
theorem k7 :z∈c8 l↔∃x∈aX l,x.kind=2∧z∈x.syms:=JT
theorem gC {k:List Rx}:x∈ke s k↔x∈k∨(0<s.length∧x=.mk 2 (uH s) []):=by
 unfold ke;by_cases h:0<s.length
 ·rw[if_pos h,aaU,aay];exact or_congr_right ⟨fun e=>⟨h,e⟩,fun e=>e.2⟩
 ·rw[if_neg h];exact⟨.inl,fun e=>e.elim id fun e=>absurd e.1 h⟩
theorem j4 (l:List Rx):dW l=Ta (ke (c8 l) (dV l)):=rfl
inductive Nf:Rx→Prop
 | none:Nf (.mk 0 [] [])
 | empty:Nf (.mk 1 [] [])
 | set {s:List Int}:jY s=true→Nf (.mk 2 s [])
 | seq {l:List Rx}:2≤l.length→(∀x,x∈l→Nf x)→(∀x∈l,x.kind≠0∧x.kind≠1∧x.kind≠3)→Nf (.mk 3 [] l)
 | alt {l:List Rx}:2≤l.length→(∀x,x∈l→Nf x)→(∀x∈l,x.kind≠0∧x.kind≠4)→qa rz l→(∀x∈l,∀y∈l,x.kind=2→y.kind=2→x=y) →
  (∀x∈l,x.kind=1→∀y∈l,y.kind≠1→cO y=false)→Nf (.mk 4 [] l)
 | star {x:Rx}:Nf x→x.kind≠0∧x.kind≠1∧x.kind≠5→(x.kind=4→∀y∈x.kids,y.kind≠1)→Nf (.mk 5 [] [x])
theorem Nf.kinds (h:Nf x):0≤x.kind∧x.kind≤5:=by cases h<;>exact⟨by simp[Rx.kind],by simp[Rx.kind]⟩
theorem Nf.k1 (h:Nf x)(hk:x.kind=1):x=eG:=by cases h<;>first|rfl|exact absurd hk (by simp[Rx.kind])
theorem Nf.k0 (h:Nf x)(hk:x.kind=0):x=dI:=by cases h<;>first|rfl|exact absurd hk (by simp[Rx.kind])
theorem Nf.k2 (h:Nf x)(hk:x.kind=2):x=.mk 2 x.syms []∧jY x.syms=true:=by
 cases h with
 | set h=>exact⟨rfl,h⟩
 | _=>exact absurd hk (by simp[Rx.kind])
theorem Nf.k3 (h:Nf x)(hk:x.kind=3):x=.mk 3 [] x.kids∧2≤x.kids.length∧(∀y,y∈x.kids→Nf y)∧(∀y∈x.kids,y.kind≠0∧y.kind≠1∧y.kind≠3):=by
 cases h with
 | seq h1 h2 h3=>exact⟨rfl,h1,h2,h3⟩
 | _=>exact absurd hk (by simp[Rx.kind])
theorem Nf.k4 (h:Nf x)(hk:x.kind=4):x=.mk 4 [] x.kids∧2≤x.kids.length∧(∀y,y∈x.kids→Nf y)∧(∀y∈x.kids,y.kind≠0∧y.kind≠4)∧qa rz x.kids ∧
  (∀y∈x.kids,∀z∈x.kids,y.kind=2→z.kind=2→y=z)∧(∀y∈x.kids,y.kind=1→∀z∈x.kids,z.kind≠1→cO z=false):=by
 cases h with
 | alt h1 h2 h3 h4 h5 h6=>exact⟨rfl,h1,h2,h3,h4,h5,h6⟩
 | _=>exact absurd hk (by simp[Rx.kind])
theorem Nf.k5 (h:Nf x)(hk:x.kind=5):∃y,x=.mk 5 [] [y]∧Nf y∧(y.kind≠0∧y.kind≠1∧y.kind≠5)∧(y.kind=4→∀z∈y.kids,z.kind≠1):=by
 cases h with
 | star h1 h2 h3=>exact⟨_,rfl,h1,h2,h3⟩
 | _=>exact absurd hk (by simp[Rx.kind])
variable{y:Rx}
theorem H8 (h:Nf x)(h0:x.kind≠0)(hy:y∈cw x):Nf y∧y.kind≠0∧y.kind≠1∧y.kind≠3:=by
 by_cases h3:x.kind=3
 ·rw[iM h3] at hy;obtain⟨_,_,h4,h5⟩:=h.k3 h3;exact⟨h4 y hy,h5 y hy⟩
 ·by_cases h1:x.kind=1
  ·rw[mj h1] at hy;cases hy
  ·rw[ef h3 h1,aay] at hy;subst hy;exact⟨h,h0,h1,h3⟩
theorem ya (P:Rx→Prop)(hn:P dI)(he:(∀x∈l,x.kind≠0)→P (xV (ek l))):P (cU l):=by
 unfold cU;by_cases h:l.any (fun x=>decide (x.kind=0))=true
 ·rw[if_pos h];exact hn
 ·rw[if_neg h];exact he fun x hx e=>h (aaQ.2 ⟨x,hx,decide_eq_true e⟩)
theorem kK (h:∀x∈l,Nf x):Nf (cU l):=by
 refine ya Nf .none fun h0=>?_
 have hm:∀y∈ek l,Nf y∧y.kind≠0∧y.kind≠1∧y.kind≠3:=fun y hy=>by
  obtain⟨x,hx,hy⟩:=abP.1 hy;exact H8 (h x hx) (h0 x hx) hy
 unfold xV;split
 ·exact .empty
 ·split
  ·exact(hm _ (aQ acK)).1
  ·exact .seq acK (fun x hx=>(hm x hx).1) fun x hx=>(hm x hx).2
theorem H9 (h:Nf x)(hy:y∈oM x):Nf y∧y.kind≠4:=by
 by_cases h4:x.kind=4
 ·rw[gQ h4] at hy;obtain⟨_,_,h5,h6,_⟩:=h.k4 h4;exact⟨h5 y hy,(h6 y hy).2⟩
 ·rw[jr h4,aay] at hy;subst hy;exact⟨h,h4⟩
theorem tq (h:∀x∈l,Nf x)(hy:y∈aX l):Nf y∧y.kind≠4:=by obtain⟨x,hx,hy⟩:=qe.1 hy;exact H9 (h x hx) hy
theorem PZ (h0:0<s.length)(h:∀x∈s,0≤x∧x<64):jY (uH s)=true:=by refine jH.2 ⟨?_,qd s,fun x hx=>h x (k6.1 hx)⟩;obtain⟨x,hx⟩:=abA.1 h0;exact abA.2 ⟨x,k6.2 hx⟩
theorem Ia (h:∀x∈l,Nf x)(hz:z∈c8 l):0≤z∧z<64:=by obtain⟨x,hx,hk,hz⟩:=k7.1 hz;exact(jH.1 ((tq h hx).1.k2 hk).2).2.2 z hz
theorem wO (h:∀x∈l,Nf x)(hy:y∈dW l):Nf y∧y.kind≠0∧y.kind≠4:=by
 rw[j4,j3,gC] at hy;rcases hy with hy|⟨h0,rfl⟩
 ·have h1:=il.1 hy;exact⟨(tq h h1.1).1,h1.2.1,(tq h h1.1).2⟩
 ·exact⟨.set (PZ h0 fun x hx=>Ia h hx),by show ¬(2:Int)=0;decide,by show ¬(2:Int)=4;decide⟩
theorem yb (hx:x∈dW l)(hy:y∈dW l)(h:x.kind=2)(h':y.kind=2):x=y:=by
 have q:∀{z:Rx},z∈dW l→z.kind=2→z=.mk 2 (uH (c8 l)) []:=fun{z} hz hk=>by
  rw[j4,j3,gC] at hz;rcases hz with hz|hz
  ·exact absurd hk (il.1 hz).2.2
  ·exact hz.2
 rw[q hx h,q hy h']
theorem MR (h:x.kind<y.kind):df x y=-1:=by rw[tj,uA h];rfl
theorem e6 (hs:qa rz l)(hn:∀x∈l,Nf x∧x.kind≠0)(hx:x∈l)(hk:x.kind=1):(l.getD 0 default)=x:=by
 match l,hs,hn,hx with
 | y :: l, hs, hn, hx =>
   show y=x;rcases aaC.1 hx with e|hx
   · exact e.symm
   · have h1 := (aa2.1 hs).1 x hx
     have h2:=(hn y aaq);have h3:=h2.1.kinds;by_cases e:y.kind=1
     · rw[h2.1.k1 e,(hn x (aav _ hx)).1.k1 hk]
     · have h4 := MR (x := x) (y := y) (by have := h2.2; omega)
       have h5:=oQ.1 h1.1;have:=kX x y;omega
theorem nR (hs:qa rz l)(hx:x∈l.drop 1):x≠l.getD 0 default∧x∈l:=by
 match l,hs,hx with
 | [],_,hx=>cases hx
 | y :: l,hs,hx=>exact⟨fun e=>((aa2.1 hs).1 x hx).2 e.symm,aav _ hx⟩
theorem nS (hx:x∈l)(h:x≠l.getD 0 default):x∈l.drop 1:=by
 match l,hx with
 | y :: l,hx=>exact(aaC.1 hx).elim (fun e=>absurd e h) id
theorem Cb {D:List Rx}(hs:qa rz D)(hn:∀x∈D,Nf x∧x.kind≠0∧x.kind≠4)(h2:∀x∈D,∀y∈D,x.kind=2→y.kind=2→x=y) :
   (∀x∈kg D,x∈D)∧qa rz (kg D)∧(∀x∈kg D,x.kind=1→∀y∈kg D,y.kind≠1→cO y=false):=by
 by_cases h:1<D.length∧(D.getD 0 default).kind=1∧(D.drop 1).any cO=true
 · rw [x6 h.1 h.2.1 h.2.2]
   refine⟨fun x hx=>aa0 hx,List.Pairwise.drop hs,fun x hx hk=>?_⟩;have h3:=nR hs hx;exact absurd (e6 hs (fun x hx=>⟨(hn x hx).1,(hn x hx).2.1⟩) h3.2 hk).symm h3.1
 · rw [mn h]
   refine⟨fun x hx=>hx,hs,fun x hx hk y hy hy1=>?_⟩;have e:=e6 hs (fun x hx=>⟨(hn x hx).1,(hn x hx).2.1⟩) hx hk;have hy2:y∈D.drop 1:=nS hy fun q=>hy1 (by rw[q,e];exact hk)
   cases ha:cO y with
   | false=>rfl
   | true =>
     refine absurd ⟨?_,by rw[e];exact hk,aaQ.2 ⟨y,hy2,ha⟩⟩ h;have:=abW hy2;rw[aaw] at this;omega
theorem P0 {C:List Rx}(hs:qa rz C)(hn:∀x∈C,Nf x∧x.kind≠0∧x.kind≠4)(h2:∀x∈C,∀y∈C,x.kind=2→y.kind=2→x=y)
  (h1:∀x∈C,x.kind=1→∀y∈C,y.kind≠1→cO y=false):Nf (wo C):=by
 unfold wo;split
 ·exact .none
 ·split
  ·exact(hn _ (aQ acK)).1
  ·exact .alt acK (fun x hx=>(hn x hx).1) (fun x hx=>(hn x hx).2) hs h2 h1
theorem Cc (h:∀x∈l,Nf x):Nf (gW l):=by
 have hn:=fun x hx=>wO h (y:=x) hx
 have h2:=fun x hx y hy=>yb (l:=l) (x:=x) (y:=y) hx hy
 obtain⟨q1,q2,q3⟩:=Cb (qb _) hn h2;exact P0 q2 (fun x hx=>hn x (q1 x hx)) (fun x hx y hy=>h2 x (q1 x hx) y (q1 y hy)) q3
theorem Tb (h:x.kind=5):cO x=true:=by rw[qR,if_neg acK,if_neg acK];exact decide_eq_true (.inr h)
theorem MS (h:Nf x)(hk:x.kind≠0∧x.kind≠1∧x.kind≠5):Nf (.mk 5 [] [pZ x]):=by
 by_cases q:x.kind=4∧(x.kids.getD 0 default).kind=1
 · obtain ⟨e, h2, hn, hk4, hs, ht, ha⟩ := h.k4 q.1
   have hf:=hn _ (aQ (l:=x.kids) (i:=0) acK);have ha':=ha _ (aQ (l:=x.kids) (i:=0) acK) q.2;have hd:∀y∈x.kids.drop 1,y.kind≠1:=fun y hy hy1=>by
     have h3:=nR hs hy;exact h3.1 (e6 hs (fun x hx=>⟨hn x hx,(hk4 x hx).1⟩) h3.2 hy1).symm
   by_cases q2:x.kids.length=2
   · rw [wL q q2]
     have hm:x.kids.getD 1 default∈x.kids:=aQ acK;have hm1:x.kids.getD 1 default∈x.kids.drop 1:=by rw[←x9];exact aQ (by rw[aaw];omega)
     have h1:=hd _ hm1;refine .star (hn _ hm) ⟨(hk4 _ hm).1,h1,fun h5=>?_⟩ fun h4=>absurd h4 (hk4 _ hm).2
     have:=ha' _ hm h1;rw[Tb h5] at this;cases this
   · rw [wM q q2]
     have es:x.syms=[]:=by rw[e];rfl
     rw[q.1,es];refine .star (.alt (by rw[aaw];omega) (fun y hy=>hn y (aa0 hy)) (fun y hy=>hk4 y (aa0 hy)) (List.Pairwise.drop hs)
       (fun y hy z hz=>ht y (aa0 hy) z (aa0 hz)) fun y hy hy1=>absurd hy1 (hd y hy)) ⟨by show ¬(4:Int)=0;decide,by show ¬(4:Int)=1;decide,by show ¬(4:Int)=5;decide⟩ fun _=>hd
 · rw [qY q]
   refine .star h hk fun h4 y hy hy1=>q ⟨h4,?_⟩
   obtain⟨e,h2,hn,hk4,hs,ht,ha⟩:=h.k4 h4;rw[e6 hs (fun x hx=>⟨hn x hx,(hk4 x hx).1⟩) hy hy1];exact hy1
theorem MT (h:Nf x):Nf (lA x):=by
 by_cases h1:x.kind=0∨x.kind=1
 ·rw[wI h1];exact .empty
 ·by_cases h5:x.kind=5
  ·rw[wJ h5];exact h
  ·rw[oR h1 h5];exact MS h ⟨fun e=>h1 (.inl e),fun e=>h1 (.inr e),h5⟩
theorem Cd {P:Rx→Prop}(h:∀r,(∀x∈r.kids,P x)→P r)(r:Rx):P r:=by
 have:∀n (r:Rx),r.size≤n→P r:=by
  intro n
  induction n with
  | zero=>intro r hr;have:=size_pos r;omega
  | succ n ih=>exact fun r hr=>h r fun x hx=>ih x (by have:=de hx;omega)
 exact this _ r (aak _)
variable{r:Rx}
theorem im (h:aR r=true):∀x∈r.kids,aR x=true:=by
 intro x hx;rw[fJ] at h;split at h
 ·cases h
 ·split at h
  ·rw[aax,decide_eq_true_eq] at h;rw[aaD h.2] at hx;cases hx
  ·split at h
   ·cases h
   ·rw[ik,aaF] at h;exact h x hx
theorem qf (h:aR r=true):0≤r.kind∧r.kind≤5:=by
 rw[fJ] at h;split at h
 ·cases h
 ·omega
theorem lL (h:aR r=true)(h5:r.kind=5):r.syms=[]∧r.kids.length=1:=by rw[iX h5,aax,aax,decide_eq_true_eq,decide_eq_true_eq] at h;exact⟨aaD h.1,h.2.1⟩
theorem qg (t:Bool)(r:Rx):aR r=true→Nf (aL t r):=by
 refine Cd (P:=fun r=>aR r=true→Nf (aL t r)) (fun r ih hv=>?_) r;have hk:∀x∈r.kids.map (aL t),Nf x:=fun x hx=>by
   obtain⟨y,hy,rfl⟩:=aaG.1 hx;exact ih y hy (im hv y hy)
 have hkk:=qf hv;by_cases h3:r.kind=3
 · cases t with
   | false=>rw[lW h3];exact kK hk
   | true=>rw[nQ h3];exact kK fun x hx=>hk x (List.mem_reverse.1 hx)
 · by_cases h4 : r.kind = 4
   · rw[kY h4];exact Cc hk
   · by_cases h5 : r.kind = 5
     · rw[kZ h5];exact MT (hk _ (aQ (by rw[aai,(lL hv h5).2];decide)))
     · rw [j2 h3 h4 h5]
       by_cases h2:r.kind=2
       · rw [mi h2, aax] at hv
         rw[h2];exact .set hv.2
       · have h01 : r.kind = 0 ∨ r.kind = 1 := acK
         rw[jE h01,aax,decide_eq_true_eq] at hv;rw[aaD hv.1];rcases h01 with e|e<;>rw[e]
         · exact .none
         · exact .empty
theorem Gz (x:Rx):Rx.aB (cw x)≤x.size:=by
 unfold cw;split
 ·have:=size_eq x;omega
 ·split
  ·have:Rx.aB []=0:=rfl;omega
  ·rw[Rx.aB,Rx.aB];omega
theorem yc:∀ l:List Rx,Rx.aB (ek l)≤Rx.aB l
 | []=>aak _
 | x :: l => by
   have:=yc l;have:=Gz x;have e:ek (x :: l)=cw x++ek l:=rfl;rw[e,ee,Rx.aB];omega
theorem eH (k:Int)(s:List Int)(l:List Rx):(Rx.mk k s l).size=1+s.length+Rx.aB l:=by rw[Rx.size]
theorem uI (l:List Rx):(cU l).size≤1+Rx.aB l:=by
 have h:=yc l;refine ya (fun r=>r.size≤1+Rx.aB l) (by rw[eH];simp only[aat,Rx.aB];omega) fun _=>?_
 unfold xV;split
 ·rw[eH];simp only[aat,Rx.aB];omega
 ·split
  ·have:=gB (aQ (l:=ek l) (i:=0) acK);omega
  ·rw[eH];simp only[aat];omega
theorem kL {m:List Rx}(h:l.Sublist m):Rx.aB l≤Rx.aB m:=by
 induction h with
 | slnil=>exact aak _
 | cons x _ ih=>rw[Rx.aB];omega
 | cons_cons x _ ih=>rw[Rx.aB,Rx.aB];omega
theorem Ea {α:Type} [Inhabited α]{eq:α→α→Bool}{l:List α}:∀i,i≤l.length→(en eq l i).Sublist (l.take i)
 | 0,_=>by rw[en];exact List.nil_sublist _
 | i + 1, h => by
   rw[en,bD h];have:=Ea (eq:=eq) (l:=l) i acK;split
   · exact this.trans (List.sublist_append_left _ _)
   · exact this.append (List.Sublist.refl _)
theorem GA (l:List Rx):Rx.aB (dW l)≤1+Rx.aB l:=by have h1:=kL (Ea (eq:=H5) (l:=j1 (ke (c8 l) (dV l))) _ (aak _));rw[abj] at h1;have h2:Rx.aB (j1 (ke (c8 l) (dV l)))=Rx.aB (ke (c8 l) (dV l)):=x7 (jq _);have h3:=x8 (c8 l) (dV l);have h4:=MP l;show Rx.aB (en _ _ _)≤_;omega
theorem GB (k:List Rx):Rx.aB (kg k)≤Rx.aB k:=by
 unfold kg;split
 ·exact kL (List.drop_sublist _ _)
 ·exact aak _
theorem AQ (l:List Rx):(gW l).size≤2+Rx.aB l:=by
 have h:=GB (dW l);have h1:=GA l;unfold gW wo;split
 ·rw[eH];simp only[aat,Rx.aB];omega
 ·split
  ·have:=gB (aQ (l:=kg (dW l)) (i:=0) acK);omega
  ·rw[eH];simp only[aat];omega
theorem GC (x:Rx):(pZ x).size≤x.size:=by
 unfold pZ;split
 ·split
  ·exact Nat.le_of_lt (de (aQ acK))
  ·rw[eH,size_eq x];have:=kL (List.drop_sublist 1 x.kids);omega
 ·exact aak _
theorem yd (x:Rx):(lA x).size≤1+x.size:=by
 unfold lA;split
 ·rw[eH];simp only[aat,Rx.aB];omega
 ·split
  ·omega
  ·have:=GC x;rw[eH];simp only[aat,Rx.aB];omega
theorem q7 (l:List Rx):Rx.aB l.reverse=Rx.aB l:=x7 (List.reverse_perm l)
theorem oT {f:Rx→Rx}:∀{l:List Rx},(∀x∈l,(f x).size≤2*x.size)→Rx.aB (l.map f)≤2*Rx.aB l
 | [],_=>aak _
 | x :: l, h => by
   have h1:=oT (l:=l) fun y hy=>h y (aav _ hy)
   have h2:=h x aaq;rw[aa6,Rx.aB,Rx.aB];omega
theorem mo (t:Bool)(r:Rx):(aL t r).size≤2*r.size:=by
 refine Cd (P:=fun r=>(aL t r).size≤2*r.size) (fun r ih=>?_) r;have hm:=oT ih;have e:=size_eq r;by_cases h3:r.kind=3
 · cases t with
   | false=>rw[lW h3];have:=uI (r.kids.map (aL false));omega
   | true=>rw[nQ h3];have:=uI (r.kids.map (aL true)).reverse;rw[q7] at this;omega
 · by_cases h4 : r.kind = 4
   · rw[kY h4];have:=AQ (r.kids.map (aL t));omega
   · by_cases h5 : r.kind = 5
     · rw [kZ h5]
       have:=yd ((r.kids.map (aL t)).getD 0 default);by_cases h0:0<r.kids.length
       · have := gB (aQ (l := r.kids.map (aL t)) (i := 0) (by rw [aai]; exact h0))
         omega
       · rw [aaD (l := r.kids) acK] at this ⊢
         have h6:((List.map (aL t) []).getD 0 default).size=1:=rfl;omega
     · rw[j2 h3 h4 h5,eH];simp only[Rx.aB];omega
theorem vH (t:Bool)(l:List Rx):Rx.aB (l.map (aL t))≤2*Rx.aB l:=oT fun x _=>mo t x
def Z3 (a:Int)(s:List Int):Nat:=s.findIdx fun x=>decide (a≤x)
variable{a:Int}
theorem U2 (hi:i≤s.length)(h1:∀k,k<i→s.getD k default<a)(h2:i<s.length→a≤s.getD i default):i=Z3 a s:=by
 rcases aaK i s.length with h|h
 ·refine((List.findIdx_eq h).2 ⟨?_,fun j hj=>?_⟩).symm
  ·have:=h2 h;rw[dp h] at this;exact decide_eq_true this
  ·have:=h1 j hj;rw[dp acK] at this;exact decide_eq_false acK
 ·have hi':i=s.length:=acK;subst hi';refine(List.findIdx_eq_length.2 fun x hx=>?_).symm;obtain⟨j,hj,e⟩:=abd hx;have:=h1 j hj;rw[dp hj,e] at this;exact decide_eq_false acK
theorem Tc (hi:i<s.length)(h:s.getD i default=a):a∈s:=by rw[←h,dp hi];exact abp hi
theorem U3 (hs:qa FW s)(h1:∀k,k<i→s.getD k default<a)(h2:i<s.length→a≤s.getD i default)(h:i<s.length→s.getD i default≠a):¬a∈s:=by
 intro hm;obtain⟨j,hj,e⟩:=abd hm;rw[←dp hj] at e;rcases Nat.lt_trichotomy j i with q|q|q
 ·have:=h1 j q;omega
 ·subst q;exact h hj e
 ·have h3:=jG hs q hj;have h4:=of_decide_eq_true h3.1;have:=h2 acK;have:=h3.2;omega
mutual
def dR (a:Int):Rx→Rx
 | .mk k s l=>if k=2 then(if a∈s then eG else dI) else if k=4 then gW (Uw a l) else if k=3 then gW (uJ a l) else if k=5 then cU [(Uw a l).getD 0 default,.mk k s l] else dI
def Uw (a:Int):List Rx→List Rx
 | []=>[]
 | x :: l=>dR a x :: Uw a l
def uJ (a:Int):List Rx→List Rx
 | []=>[]
 | x :: l=>cU [dR a x,cU l] :: (if cO x=true then uJ a l else[])
end
theorem Ib (a:Int):∀l:List Rx,Uw a l=l.map (dR a)
 | []=>by rw[Uw];rfl
 | x :: l=>by rw[Uw,Ib a l];rfl
theorem ye (a:Int)(r:Rx):dR a r=if r.kind=2 then(if a∈r.syms then eG else dI) else if r.kind=4 then gW (r.kids.map (dR a)) else if r.kind=3 then gW (uJ a r.kids) else
  if r.kind=5 then cU [(r.kids.map (dR a)).getD 0 default,r] else dI:=by
 cases r with|mk k s l=>rw[dR,Ib];rfl
theorem k8:gW []=dI:=by rfl
def dL (a:Int)(r:Rx):List Rx:=if r.kind=4 then r.kids.map (dR a) else if r.kind=3 then uJ a r.kids else[]
theorem MU (h:r.kind=4):dL a r=r.kids.map (dR a):=if_pos h
theorem JU (h:r.kind=3):dL a r=uJ a r.kids:=by unfold dL;rw[if_neg acK,if_pos h]
theorem Ce (h:r.kind≠4)(h3:r.kind≠3):dL a r=[]:=by unfold dL;rw[if_neg h,if_neg h3]
theorem X0 (h:r.kind=2)(hm:a∈r.syms):dR a r=eG:=by rw[ye,if_pos h,if_pos hm]
theorem X1 (h:r.kind=5):dR a r=cU [(r.kids.map (dR a)).getD 0 default,r]:=by rw[ye,if_neg acK,if_neg acK,if_neg acK,if_pos h]
theorem Ic (h:r.kind=5)(h0:0<r.kids.length):dR a r=cU [dR a (r.kids.getD 0 default),r]:=by rw[X1 h,getD_map h0]
theorem uK (h5:r.kind≠5)(h2:r.kind=2→¬a∈r.syms):dR a r=gW (dL a r):=by
 rw[ye];by_cases h:r.kind=2
 ·rw[if_pos h,if_neg (h2 h),Ce acK acK,k8]
 ·rw[if_neg h];by_cases h4:r.kind=4
  ·rw[if_pos h4,MU h4]
  ·rw[if_neg h4];by_cases h3:r.kind=3
   ·rw[if_pos h3,JU h3]
   ·rw[if_neg h3,if_neg h5,Ce h4 h3,k8]
def dQ (a:Int)(l:List Rx)(i:Nat):Rx:=cU [dR a (l.getD i default),cU (l.drop (i+1))]
theorem Eb (h:i<l.length):uJ a (l.drop i)=dQ a l i :: (if cO (l.getD i default)=true then uJ a (l.drop (i+1)) else[]):=by rw[drop_cons h,uJ];rfl
theorem yf {a:Int}{l:List Rx}:∀i,i≤l.length→(∀j,j<i→cO (l.getD j default)=true)→uJ a l=(List.range i).map (dQ a l)++uJ a (l.drop i)
 | 0,_,_=>by simp
 | i + 1, hi, h => by
   rw[yf i acK fun j hj=>h j acK,Eb acK,if_pos (h i acK),aa8,aas,aaY];rfl
theorem P1 (hi:i=l.length)(h:∀j,j<i→cO (l.getD j default)=true):uJ a l=(List.range i).map (dQ a l):=by rw[yf i acK h,hi,List.drop_length,uJ,aaP]
theorem MV (hi:i<l.length)(h:∀j,j<i→cO (l.getD j default)=true)(hn:cO (l.getD i default)=false):uJ a l=(List.range (i+1)).map (dQ a l):=by rw[yf i acK h,Eb hi,if_neg (by rw[hn];decide),aa8,aas];rfl
mutual
def Z4:Rx→Nat
 | .mk k s l=>if k=4 then 2+Td l else if k=3 then 2+U4 l else if k=5 then 2+Td l+(Rx.mk k s l).size else 2
def Td:List Rx→Nat
 | []=>0
 | x :: l=>Z4 x+Td l
def U4:List Rx→Nat
 | []=>0
 | x :: l=>2+Z4 x+Rx.aB l+(if cO x=true then U4 l else 0)
end
theorem Te (h:i+j<4611686018427387904):IntKind.i64.wrap ((IntKind.u64.wrap ((i:Int)+j)).fdiv (2 ^ (min (1:Int).toNat IntKind.u64.bits)))=(((i+j) / 2:Nat):Int):=by
 have h1:IntKind.u64.wrap ((i:Int)+j)=(i:Int)+j:=by simp[IntKind.wrap,IntKind.signed,IntKind.bits];omega
 have h2:∀n:Int,0≤n→n<4611686018427387904→IntKind.i64.wrap n=n:=fun n h0 h1=>by
  simp[IntKind.wrap,IntKind.signed,IntKind.bits];omega
 rw[h1,show(min (1:Int).toNat IntKind.u64.bits)=1 from rfl,Int.fdiv_eq_ediv_of_nonneg _ acM,h2 _ acK acK];omega
theorem nT (h:Nf x):aR x=true:=by
 induction h with
 | none=>rw[jE (.inl rfl)];rfl
 | empty=>rw[jE (.inr rfl)];rfl
 | set h=>rw[mi rfl,show jY (Rx.syms (.mk 2 _ []))=true from h];rfl
 | seq h1 h2 h3 ih =>
   rw[lU (.inl rfl)];show(true&&!(List.any _ _))=true;rw[abm,aa5,abH];exact fun x hx=>by rw[ih x hx];decide
 | alt h1 h2 h3 h4 h5 h6 ih =>
   rw[lU (.inr rfl)];show(true&&!(List.any _ _))=true;rw[abm,aa5,abH];exact fun x hx=>by rw[ih x hx];decide
 | star h1 h2 h3 ih =>
   rw[iX rfl];show(true&&(true&&aR _))=true;rw[abm,abm];exact ih
theorem tt {a:Int}{y:Rx}:∀{l:List Rx},y∈uJ a l→∃i,i<l.length∧y=dQ a l i
 | [],h=>by rw[uJ] at h;cases h
 | x :: l, h => by
   rw[uJ] at h;rcases aaC.1 h with rfl|h
   · exact⟨0,by simp,rfl⟩
   · split at h
     · obtain ⟨i, hi, e⟩ := tt h
       exact⟨i+1,by simpa using hi,by rw[e];rfl⟩
     · cases h
theorem rO (a:Int)(h:Nf x):Nf (dR a x):=by
 have hseq:∀l:List Rx,(∀x∈l,Nf x)→(∀x∈l,Nf (dR a x))→∀y∈uJ a l,Nf y:=fun l h1 h2 y hy=>by
   obtain⟨i,hi,rfl⟩:=tt hy;refine kK fun z hz=>?_
   rcases aaC.1 hz with rfl|hz
   · exact h2 _ (aQ hi)
   · rw[aay.1 hz];exact kK fun u hu=>h1 u (aa0 hu)
 have hmap:∀l:List Rx,(∀x∈l,Nf (dR a x))→∀y∈l.map (dR a),Nf y:=fun l h2 y hy=>by
   obtain⟨z,hz,rfl⟩:=aaG.1 hy;exact h2 z hz
 induction h with
 | none=>rw[uK acM (fun h=>by cases h),Ce acM acM,k8];exact .none
 | empty=>rw[uK acM (fun h=>by cases h),Ce acM acM,k8];exact .none
 | set h =>
   rw[ye,if_pos (show(Rx.mk 2 _ []).kind=2 from rfl)];split
   · exact .empty
   · exact .none
 | seq h1 h2 h3 ih =>
   rw[uK (by simp[Rx.kind]) (by simp[Rx.kind]),JU rfl];exact Cc (hseq _ h2 ih)
 | alt h1 h2 h3 h4 h5 h6 ih =>
   rw[uK (by simp[Rx.kind]) (by simp[Rx.kind]),MU rfl];exact Cc (hmap _ ih)
 | @star y h1 h2 h3 ih =>
   rw[Ic rfl (by show 0<1;decide)];refine kK fun z hz=>?_
   rcases aaC.1 hz with rfl|hz
   · exact ih
   · rw[aay.1 hz];exact .star h1 h2 h3
theorem nU (h:∀x∈l,x.kind≠1∧x.kind≠3):ek l=l:=by
 induction l with
 | nil=>rfl
 | cons x l ih =>
   have e:ek (x :: l)=cw x++ek l:=rfl;rw[e,ih fun y hy=>h y (aav _ hy),ef (h x aaq).2 (h x aaq).1];rfl
theorem JV (h2:2≤l.length)(h:∀x∈l,x.kind≠0∧x.kind≠1∧x.kind≠3):cU l=.mk 3 [] l:=by rw[nM (fun j hj=>(h _ (aQ hj)).1),nU (fun x hx=>(h x hx).2),sj acK acK]
theorem nV (h:∀x∈l,x.kind≠4):aX l=l:=by
 induction l with
 | nil=>rfl
 | cons x l ih =>
   have e:aX (x :: l)=oM x++aX l:=rfl;rw[e,ih fun y hy=>h y (aav _ hy),jr (h x aaq)];rfl
theorem AR (hn:∀x∈l,Nf x)(hk:∀x∈l,x.kind≠0∧x.kind≠4)(hs:qa rz l)(h2:∀x∈l,∀y∈l,x.kind=2→y.kind=2→x=y):dW l=l:=by
 rw[j4];refine qZ x4 (qb _) hs fun x=>?_
 rw[j3,gC,il,nV fun x hx=>(hk x hx).2];have hS:∀y∈l,y.kind=2→uH (c8 l)=y.syms:=fun y hy hy2=>by
   have h3:=((hn y hy).k2 hy2).2;rw[←JR (jH.1 h3).2.1];refine MQ fun z=>?_
   rw[k7,nV fun x hx=>(hk x hx).2];exact⟨fun⟨q,hq,hq2,hz⟩=>by rw[h2 y hy q hq hy2 hq2];exact hz,fun hz=>⟨y,hy,hy2,hz⟩⟩
 constructor
 · rintro (h | ⟨h0, rfl⟩)
   · exact h.1
   · obtain ⟨z, hz⟩ := abA.1 h0
     rw[k7,nV fun x hx=>(hk x hx).2] at hz;obtain⟨y,hy,hy2,_⟩:=hz;rw[hS y hy hy2,←((hn y hy).k2 hy2).1];exact hy
 · intro hx
   by_cases hx2:x.kind=2
   · refine .inr ⟨?_, ?_⟩
     · have h3 := (jH.1 ((hn x hx).k2 hx2).2).1
       obtain⟨z,hz⟩:=abA.1 h3;exact abA.2 ⟨z,k7.2 ⟨x,by rw[nV fun x hx=>(hk x hx).2];exact hx,hx2,hz⟩⟩
     · rw[hS x hx hx2];exact((hn x hx).k2 hx2).1
   · exact .inl ⟨hx,(hk x hx).1,hx2⟩
theorem JW (hs:qa rz l)(h:∀x∈l,x.kind=1→∀y∈l,y.kind≠1→cO y=false)(hn:∀x∈l,Nf x):kg l=l:=by
 refine mn fun⟨h1,h2,h3⟩=>?_
 obtain⟨y,hy,ha⟩:=aaQ.1 h3;have hd:=nR hs hy;have h0:l.getD 0 default∈l:=aQ acK;refine absurd ha ?_;rw[h _ h0 h2 y hd.2 fun q=>hd.1 ?_]
 ·decide
 ·rw[(hn y hd.2).k1 q,(hn _ h0).k1 h2]
theorem AS (hl:2≤l.length)(hn:∀x∈l,Nf x)(hk:∀x∈l,x.kind≠0∧x.kind≠4)(hs:qa rz l)(h2:∀x∈l,∀y∈l,x.kind=2→y.kind=2→x=y)
  (h:∀x∈l,x.kind=1→∀y∈l,y.kind≠1→cO y=false):gW l=.mk 4 [] l:=by
 unfold gW;rw[AR hn hk hs h2,JW hs h hn,x5 acK acK]
theorem GD (h:x.kind≠0∧x.kind≠1∧x.kind≠5)(h4:x.kind=4→∀y∈x.kids,y.kind≠1)(hn:Nf x):lA x=.mk 5 [] [x]:=by rw[oR (fun e=>e.elim h.1 h.2.1) h.2.2,qY];exact fun e=>h4 e.1 _ (aQ (by have:=(hn.k4 e.1).2.1;omega)) e.2
theorem yg {α:Type}{f:α→α}{l:List α}(h:∀x∈l,f x=x):l.map f=l:=by rw[acz h];exact List.map_id _
theorem tu (h:Nf x):aL false x=x:=by
 induction h with
 | none=>rw[j2 acM acM acM];rfl
 | empty=>rw[j2 acM acM acM];rfl
 | set h=>rw[j2 (by simp[Rx.kind]) (by simp[Rx.kind]) (by simp[Rx.kind])];rfl
 | @seq l h1 h2 h3 ih =>
   rw[lW rfl];show cU (l.map (aL false))=_;rw[yg ih];exact JV h1 h3
 | @alt l h1 h2 h3 h4 h5 h6 ih =>
   rw[kY rfl];show gW (l.map (aL false))=_;rw[yg ih];exact AS h1 h2 h3 h4 h5 h6
 | @star x h1 h2 h3 ih =>
   rw[kZ rfl];show lA (aL false x)=_;rw[ih];exact GD h2 h3 h1
def dv (r:Rx):Rx:=if aR r=true then aL false r else dI
def eo (r:Rx):Rx:=if aR r=true then aL true r else dI
theorem q8 (r:Rx):Nf (dv r):=by
 unfold dv;split
 ·next h=>exact qg false r h
 ·exact .none
theorem P2 (r:Rx):Nf (eo r):=by
 unfold eo;split
 ·next h=>exact qg true r h
 ·exact .none
theorem P3 (h:Nf x):dv x=x:=by unfold dv;rw[if_pos (nT h),tu h]
def JX (r:Rx)(w:List Int)(k:Nat):Rx:=(w.take k).foldl (fun x a=>dR a x) (dv r)
theorem MW {w:List Int}{k:Nat}(h:k<w.length):JX r w (k+1)=dR (w.getD k default) (JX r w k):=by unfold JX;rw[bD h,abB];rfl
theorem Tf (r:Rx)(w:List Int)(k:Nat):Nf (JX r w k):=by
 unfold JX;generalize w.take k=v;have:∀(v:List Int)(x:Rx),Nf x→Nf (v.foldl (fun x a=>dR a x) x):=by
  intro v
  induction v with
  | nil=>exact fun x h=>h
  | cons a v ih=>exact fun x h=>ih _ (rO a h)
 exact this v _ (q8 r)
def sk (r:Rx)(w:List Int):Bool:=cO (JX r w w.length)
theorem AT (r:Rx):(dv r).size≤2*r.size:=by
 unfold dv;split
 ·exact mo false r
 ·have:=size_pos r;rw[eH];simp only[aat,Rx.aB];omega
end Go.Wb
