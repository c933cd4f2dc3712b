/-
  Part of the proof.
-/
import Derived.Test.YtlapahnodhmcpaaGreatJ0
import Derived.Test.YtlapahnodhmcpaaGreatJ14
import Derived.Test.YtlapahnodhmcpaaGreatJ16
import Derived.Test.YtlapahnodhmcpaaGreatJ19
import Derived.Test.YtlapahnodhmcpaaGreatJ6
import Derived.Test.YtlapahnodhmcpaaGreatRows
import Derived.Shelf.SlGeneric
import Derived.Shelf.SlSortCmp.NoneTotal
import Derived.Shelf.SortM.Plain
import Derived.Shelf.SortM.SortNone
import Derived.Ground.SlsfProg
import Derived.Ground.SlgmProg
import Derived.Ground.SlgnProg
import Derived.Shelf.SlicesQ.Reverse
set_option linter.unusedVariables false
set_option linter.unusedSectionVars false
set_option linter.unusedSimpArgs false
set_option maxRecDepth 100000
set_option maxHeartbeats 40000000
namespace Go.We
open Go.Am
theorem M8 {α:Type}{n i:Nat}{x:α}(h:i<n):(List.replicate n x)[i]?=some x:=by rw[abQ,if_pos h]
def br (T:TypeId)(m:List (List Bool)):List Cell:=m.map fun r=>Cell.row T (r.map bool)
theorem cA (T:TypeId)(m:List (List Bool)):(br T m).length=m.length:=by unfold br;rw[aai]
def fZ (N:Nat)(g:Nat→Bool):List Bool:=(List.range N).map g
def b9 (N:Nat)(f:Nat→Nat→Bool):List (List Bool):=(List.range N).map fun i=>fZ N (f i)
abbrev M9 (l:List Bool):AV:=.sl (l.map bool)
abbrev qj (m:List (List Bool)):AV:=.sl (m.map M9)
theorem bH (N:Nat)(g:Nat→Bool):(fZ N g).length=N:=by unfold fZ;simp
theorem cG (N:Nat)(f:Nat→Nat→Bool):(b9 N f).length=N:=by unfold b9;simp
section
variable {N i j:Nat}{f f':Nat→Nat→Bool}{g g':Nat→Bool}{T:TypeId}
theorem fC (h:j<N):(fZ N g).getD j default=g j:=by unfold fZ;rw[aag,aap,abr h];rfl
theorem kM (h:i<N):(b9 N f).getD i default=fZ N (f i):=by unfold b9;rw[aag,aap,abr h];rfl
theorem wT (h:i<N):(br T (b9 N f))[i]?=some (.row T ((fZ N (f i)).map bool)):=by unfold br b9;rw[aap,aap,abr h];rfl
theorem iv (h:∀j,j<N→g j=g' j):fZ N g=fZ N g':=acz fun j hj=>h j (aaI.1 hj)
theorem iZ (h:∀i j,i<N→j<N→f i j=f' i j):b9 N f=b9 N f':=acz fun i hi=>iv fun j hj=>h i j (aaI.1 hi) hj
theorem j6 {v:Bool}(hj:j<N)(h:∀k,k<N→g' k=if k=j then v else g k):((fZ N g).map bool).set j (bool v)=(fZ N g').map bool:=by
 rw[←List.map_set]
 congr 1
 unfold fZ;refine List.ext_getElem (by simp) fun k h1 h2=>?_
 have hk:k<N:=by simpa using h2
 rw[List.getElem_set,acd,acd,List.getElem_range,h k hk];by_cases q:j=k
 ·rw[if_pos q,if_pos q.symm]
 ·rw[if_neg q,if_neg (abi q)]
theorem rf (hi:i<N)(h:∀k l,k<N→l<N→f' k l=if k=i then g l else f k l):(br T (b9 N f)).set i (.row T ((fZ N g).map bool))=br T (b9 N f'):=by
 unfold br b9;refine List.ext_getElem (by simp) fun k h1 h2=>?_
 have hk:k<N:=by simpa using h2
 rw[List.getElem_set];simp only[acd,List.getElem_range];by_cases q:i=k
 ·rw[if_pos q];congr 2;exact iv fun l hl=>by rw[h k l hk hl,if_pos q.symm]
 ·rw[if_neg q];congr 2;exact iv fun l hl=>by rw[h k l hk hl,if_neg (abi q)]
end
def Em (q:Bool)(i j:Nat):Bool:=decide (j=i)&&q
theorem P4 (T:TypeId)(n:Nat)(q:Bool){i:Nat}(hi:i<n+1):br T ((List.range (i+1)).map fun i=>fZ (n+1) (Em q i))=br T ((List.range i).map fun i=>fZ (n+1) (Em q i))++[.row T ((List.replicate (n+1) (bool false)).set i (bool q))]:=by
 unfold br;rw[aa8,aas,aas]
 congr 1
 simp only[aa6,abu];rw[show List.replicate (n+1) (bool false)=(fZ (n+1) fun _=>false).map bool from(by unfold fZ;refine List.ext_getElem (by simp) fun k h1 h2=>?_;simp),j6 (g':=Em q i) hi fun k hk=>by
  unfold Em;by_cases q1:k=i
  ·rw[if_pos q1,decide_eq_true q1];simp
  ·rw[if_neg q1,decide_eq_false q1];rfl]
def oV (a b:Nat→Nat→Bool)(i k j:Nat):Bool:=(List.range k).any fun l=>decide (i≤l)&&decide (l≤j)&&a i l&&b l j
def Ux (N:Nat)(a b:Nat→Nat→Bool)(i j:Nat):Bool:=oV a b i N j
theorem Na (a b:Nat→Nat→Bool)(i k j:Nat):oV a b i (k+1) j=(oV a b i k j||(decide (i≤k)&&decide (k≤j)&&a i k&&b k j)):=by unfold oV;rw[aa8,acr];simp
theorem JY (a b:Nat→Nat→Bool)(i j:Nat):oV a b i i j=false:=by unfold oV;rw[abH];intro l hl;have:=aaI.1 hl;rw[decide_eq_false (show ¬i≤l by omega)];simp
def Dc (a b:Nat→Nat→Bool)(i k j l:Nat):Bool:=oV a b i k l||(decide (k≤l)&&decide (l<j)&&a i k&&b k l)
theorem JZ (a b:Nat→Nat→Bool)(i k l:Nat):Dc a b i k k l=oV a b i k l:=by
 unfold Dc;by_cases h:k≤l
 ·rw[decide_eq_false (show ¬l<k by omega)];simp
 ·rw[decide_eq_false h];simp
theorem P5 {a b:Nat→Nat→Bool}{i k j l:Nat}(hi:i≤k)(h:l<j∨a i k=false):Dc a b i k j l=oV a b i (k+1) l:=by
 unfold Dc;rw[Na,decide_eq_true hi];rcases h with h|h
 ·rw[decide_eq_true h];simp
 ·rw[h];simp
theorem En {a b:Nat→Nat→Bool}{i k j l:Nat}(hk:k≤j)(ha:a i k=true):Dc a b i k (j+1) l=if l=j then(Dc a b i k j j||b k j) else Dc a b i k j l:=by
 by_cases h:l=j
 ·subst h;rw[if_pos rfl];unfold Dc;rw[decide_eq_true hk,decide_eq_true (show l<l+1 by omega),decide_eq_false (show ¬l<l by omega),ha];simp
 ·rw[if_neg h];unfold Dc;rw[show decide (l<j+1)=decide (l<j) from decide_eq_decide.2 acK]
def J0 (N:Nat)(a b:Nat→Nat→Bool)(i k l:Nat):Bool:=decide (k<i)&&Ux N a b k l
end Go.We
namespace Go.Am
open Go.RowKit Go.MapKept Go.ChangeMaps
section
variable {P:Program} {w0:Fr}{M0:Nat→Prop}
variable {o:Oper} {ρ:Operand→Option SV}{ob:List (Nat×Ob)}{x y z:Operand}{T T' e:TypeId}{k b:Nat}{c:fW}{id off:Nat}{s:St}{t:Nat}
end
end Go.Am
namespace Go.We
open Go.Am Go.Wb
noncomputable def pB (p:Prop):Bool:=@decide p (Classical.propDecidable p)
theorem kE {p:Prop}:pB p=true↔p:=by unfold pB;exact @decide_eq_true_iff p (Classical.propDecidable p)
theorem AZ {p:Prop}{b:Bool}(h:b=true↔p):b=pB p:=abU.2 (h.trans kE.symm)
def sg (w:List Int)(i j:Nat):List Int:=(w.drop i).take (j-i)
theorem Ij (w:List Int)(i:Nat):sg w i i=[]:=by unfold sg;rw[ach];rfl
theorem Eo {w:List Int}{i l j:Nat}(h1:i≤l)(h2:l≤j):sg w i j=sg w i l++sg w l j:=by unfold sg;rw[show j-i=(l-i)+(j-l) by omega,List.take_add,List.drop_drop,show i+(l-i)=l by omega]
theorem GI {w:List Int}{i j:Nat}(h1:i≤j)(h2:j≤w.length):(sg w i j).length=j-i:=by unfold sg;rw[aau,aaw];omega
theorem Nb {w:List Int}{i:Nat}(h:i<w.length):sg w i (i+1)=[w.getD i default]:=by unfold sg;rw[show i+1-i=1 by omega,abF h,aag,aal h];rfl
theorem Ep {w u v:List Int}{i j:Nat}(h1:i≤j)(h2:j≤w.length)(h:sg w i j=u++v):∃l,i≤l∧l≤j∧u=sg w i l∧v=sg w l j:=by
 have hl:=congrArg List.length h;rw[GI h1 h2,aar] at hl;refine⟨i+u.length,acK,acK,?_,?_⟩
 ·have e:=congrArg (List.take u.length) h;rw[List.take_left' rfl] at e;refine e.symm.trans ?_;unfold sg;rw[List.take_take,show min u.length (j-i)=i+u.length-i by omega]
 ·have e:=congrArg (List.drop u.length) h;rw[List.drop_left' rfl] at e;refine e.symm.trans ?_;unfold sg;rw[List.drop_take,List.drop_drop,show j-i-u.length=j-(i+u.length) by omega]
theorem Tm (w:List Int):sg w 0 w.length=w:=by unfold sg;simp
noncomputable def rB (w:List Int)(r:Rx)(i j:Nat):Bool:=pB (i≤j∧fb r (sg w i j))
def Kw (r:Rx)(m:Nat)(u:List Int):Prop:=if r.kind=1 then u=[] else if r.kind=2 then ∃a,u=[a]∧a∈r.syms else if r.kind=3 then kh (r.kids.take m) u else if r.kind=4 then zN (r.kids.take m) u else if r.kind=5 then(if m=0 then u=[] else dM (fb (r.kids.getD 0 default)) u) else False
noncomputable def KF (w:List Int)(r:Rx)(m i j:Nat):Bool:=pB (i≤j∧Kw r m (sg w i j))
theorem P6 {a b:Nat→Nat→Bool}{i k j:Nat}:oV a b i k j=true↔∃l,l<k∧i≤l∧l≤j∧a i l=true∧b l j=true:=by
 unfold oV;rw[aaQ];constructor
 ·rintro⟨l,hl,h⟩;simp only[aax,decide_eq_true_eq] at h;exact⟨l,aaI.1 hl,h.1.1.1,h.1.1.2,h.1.2,h.2⟩
 ·rintro⟨l,h1,h2,h3,h4,h5⟩;refine⟨l,aaI.2 h1,?_⟩;simp only[aax,decide_eq_true_eq];exact⟨⟨⟨h2,h3⟩,h4⟩,h5⟩
section
variable {w:List Int}{r:Rx}{m i j:Nat}
theorem Nc (h:r.kind=3)(u:List Int):Kw r m u↔kh (r.kids.take m) u:=by unfold Kw;rw[if_neg acK,if_neg acK,if_pos h]
theorem P7 (h:r.kind=4)(u:List Int):Kw r m u↔zN (r.kids.take m) u:=by unfold Kw;rw[if_neg acK,if_neg acK,if_neg acK,if_pos h]
theorem Tn (h:r.kind=5)(u:List Int):Kw r m u↔(if m=0 then u=[] else dM (fb (r.kids.getD 0 default)) u):=by unfold Kw;rw[if_neg acK,if_neg acK,if_neg acK,if_neg acK,if_pos h]
theorem A0 (hm:m<r.kids.length):r.kids.take (m+1)=r.kids.take m++[r.kids.getD m default]:=by rw[List.take_add_one,aal hm,aag,aal hm];rfl
theorem X2 (h:r.kind=3)(hm:m<r.kids.length)(hj:j<w.length+1):Ux (w.length+1) (KF w r m) (rB w (r.kids.getD m default)) i j=KF w r (m+1) i j:=by
 refine AZ ?_;unfold Ux;rw[P6,Nc h,A0 hm,qh];constructor
 ·rintro⟨l,h1,h2,h3,h4,h5⟩;obtain⟨_,h4⟩:=kE.1 h4;obtain⟨_,h5⟩:=kE.1 h5;exact⟨acK,_,_,Eo h2 h3,(Nc h _).1 h4,(iY _ _).2 h5⟩
 ·rintro⟨h1,u,v,h2,h3,h4⟩;obtain⟨l,q1,q2,rfl,rfl⟩:=Ep h1 acK h2;exact⟨l,acK,q1,q2,kE.2 ⟨q1,(Nc h _).2 h3⟩,kE.2 ⟨q2,(iY _ _).1 h4⟩⟩
theorem X3 (h:r.kind=4)(hm:m<r.kids.length):(KF w r m i j||rB w (r.kids.getD m default) i j)=KF w r (m+1) i j:=by
 refine AZ ?_;rw[aba,P7 h,A0 hm,gD];unfold KF rB;rw[kE,kE,P7 h,gD];constructor
 ·rintro(⟨h1,x,h2,h3⟩|⟨h1,h2⟩)
  ·exact⟨h1,x,ab0 _ h2,h3⟩
  ·exact⟨h1,_,abY _ (aay.2 rfl),h2⟩
 ·rintro⟨h1,x,h2,h3⟩;rcases aaU.1 h2 with h2|h2
  ·exact .inl ⟨h1,x,h2,h3⟩
  ·rw[aay.1 h2] at h3;exact .inr ⟨h1,h3⟩
theorem GJ (h1:i≤j)(h2:j≤w.length):sg w i j=[]↔j=i:=by
 constructor
 ·intro h;have:=GI h1 h2;rw[h] at this;simp at this;omega
 ·rintro rfl;exact Ij w _
theorem U6 (h:r.kind=0∨r.kind=1∨r.kind=3∨r.kind=4∨r.kind=5)(hj:j<w.length+1):Em (decide (r.kind=1)||(decide (r.kind=3)||decide (r.kind=5))) i j=KF w r 0 i j:=by
 refine AZ ?_;unfold Em;simp only[aax,decide_eq_true_eq,aba];have key:i≤j∧sg w i j=[]↔j=i:=⟨fun⟨h1,h2⟩=>(GJ h1 acK).1 h2,fun h=>⟨acK,(GJ acK acK).2 h⟩⟩;rcases h with h|h|h|h|h
 ·simp[Kw,h]
 ·simp only[Kw,h];simp only[if_true];rw[key];simp
 ·rw[Nc h,acJ,iu,key];simp[h]
 ·rw[P7 h,acJ,gD];simp[h]
 ·rw[Tn h,if_pos rfl,key];simp[h]
def R0 (w:List Int)(s:List Int)(i j:Nat):Bool:=decide (j=i+1)&&decide (w.getD i default∈s)
theorem X4 (h:r.kind=2)(hi:i<w.length+1)(hj:j<w.length+1):R0 w r.syms i j=KF w r m i j:=by
 refine AZ ?_;unfold R0;rw[aax,decide_eq_true_eq,decide_eq_true_eq];unfold Kw;rw[if_neg acK,if_pos h];constructor
 ·rintro⟨rfl,h2⟩;exact⟨acK,_,Nb acK,h2⟩
 ·rintro⟨h1,a,h2,h3⟩;have e:=GI h1 (show j≤w.length by omega);rw[h2] at e;have e':j=i+1:=by simp at e;omega
  subst e';rw[Nb acK] at h2;injection h2 with h2;exact⟨rfl,by rw[h2];exact h3⟩
end
def qk (x:Nat→Nat→Bool)(i:Nat):Nat→Nat→Bool
 | 0,l=>decide (l=i)
 | k+1,l=>qk x i k l||(decide (i≤k)&&decide (k≤l)&&qk x i k k&&x k l)
theorem yk {x:Nat→Nat→Bool}{i k k' l:Nat}(h:k≤k')(hs:qk x i k l=true):qk x i k' l=true:=by
 induction k' with
 | zero=>rw[show k=0 by omega] at hs;exact hs
 | succ k' ih =>
   by_cases q:k=k'+1
   · rw[←q];exact hs
   · rw[qk,ih acK,Bool.true_or]
theorem Nd {x:Nat→Nat→Bool}{i:Nat}:∀{k l:Nat},qk x i k l=true→i≤l
 | 0,l,h=>by have:=of_decide_eq_true h;omega
 | k + 1, l, h => by
   rw[qk,aba] at h;rcases h with h|h
   · exact Nd h
   · simp only[aax,decide_eq_true_eq] at h;omega
theorem Ck {w:List Int}{y:Rx}{i:Nat}:∀{k l:Nat},qk (rB w y) i k l=true→dM (fb y) (sg w i l)
 | 0,l,h=>by rw[of_decide_eq_true h,Ij];exact .nil
 | k + 1, l, h => by
   rw[qk,aba] at h;rcases h with h|h
   · exact Ck h
   · simp only [aax, decide_eq_true_eq] at h
     obtain⟨⟨⟨h1,h2⟩,h3⟩,h4⟩:=h;obtain⟨_,h4⟩:=kE.1 h4;rw[Eo h1 h2];have key:∀{P:List Int→Prop}{u v:List Int},dM P u→P v→dM P (u++v):=fun hu hv=>by
       induction hu with
       | nil=>have:=dM.cons hv .nil;rwa [aaP] at this
       | cons h1 _ ih=>rw[aaY];exact .cons h1 ih
     exact key (Ck h3) h4
theorem P8 {w:List Int}{y:Rx}{i N:Nat}(hN:N=w.length+1){u:List Int}(h:dM (fb y) u):∀{p l:Nat},i≤p→p≤l→l<N→u=sg w p l→qk (rB w y) i p p=true→qk (rB w y) i N l=true:=by
 induction h with
 | nil =>
   intro p l h1 h2 h3 h4 h5;have:=(GJ (w:=w) h2 acK).1 h4.symm;subst this;exact yk acK h5
 | @cons u v hu hv ih =>
   intro p l h1 h2 h3 h4 h5;obtain⟨q,q1,q2,rfl,rfl⟩:=Ep h2 acK h4.symm;refine ih (p:=q) acK q2 h3 J ?_;by_cases e:q=p
   · rw[e];exact h5
   · refine yk (k := p + 1) acK ?_
     rw[qk,aba];refine .inr ?_;simp only[aax,decide_eq_true_eq];exact⟨⟨⟨h1,q1⟩,h5⟩,kE.2 ⟨q1,hu⟩⟩
theorem J1 {x:Nat→Nat→Bool}{i:Nat}:qk x i i i=true:=yk (k:=0) (aan _) (decide_eq_true rfl)
theorem X5 {w:List Int}{r:Rx}{i j:Nat}(h:r.kind=5)(hj:j<w.length+1):qk (rB w (r.kids.getD 0 default)) i (w.length+1) j=KF w r 1 i j:=by
 refine AZ ?_;rw[Tn h,if_neg acM];constructor
 ·exact fun hs=>⟨Nd hs,Ck hs⟩
 ·exact fun⟨h1,h2⟩=>P8 rfl h2 (aak i) h1 hj rfl J1
theorem To {w:List Int}{r:Rx}{i j:Nat}(hk:0≤r.kind∧r.kind≤5)(h5:r.kind=5→r.kids.length=1):KF w r r.kids.length i j=rB w r i j:=by
 refine AZ (kE.trans ?_);rw[and_congr_right_iff];intro _;rcases(by omega:r.kind=0∨r.kind=1∨r.kind=2∨r.kind=3∨r.kind=4∨r.kind=5) with h|h|h|h|h|h
 ·exact⟨fun q=>by simp[Kw,h] at q,fun q=>(mX h _ q).elim⟩
 ·rw[mr h];simp[Kw,h]
 ·rw[nW h];simp[Kw,h]
 ·rw[vJ h,Nc h,abj]
 ·rw[tw h,P7 h,abj]
 ·have hl:=h5 h;rw[vK h,Tn h,if_neg acK]
  match hk:r.kids,hl with
  | [x],_=>rw[mu];rfl
theorem yl (T:TypeId)(m:List (List Bool)):(br T m).map Cell.av=m.map M9:=by unfold br;rw[aco];rfl
variable{s:List Int}
section
variable {a x:Nat→Nat→Bool}{N i k j l:Nat}
def Er (a x:Nat→Nat→Bool)(i k l:Nat):Bool:=a i l||(decide (l<k)&&x i l)
def Ng (a x:Nat→Nat→Bool)(i k l:Nat):Bool:=a k l||(decide (k<i)&&x k l)
theorem J2:Er a x i 0 l=a i l:=by unfold Er;simp
theorem P9 (h:l<N):Er a x i N l=(a i l||x i l):=by unfold Er;rw[decide_eq_true h];simp
theorem Es:Er a x i (k+1) l=if l=k then(Er a x i k k||x i k) else Er a x i k l:=by
 unfold Er;by_cases h:l=k
 ·subst h;rw[if_pos rfl,decide_eq_true (show l<l+1 by omega),decide_eq_false (show ¬l<l by omega)];simp
 ·rw[if_neg h,show decide (l<k+1)=decide (l<k) from decide_eq_decide.2 acK]
theorem J3:Ng a x 0 k l=a k l:=by unfold Ng;simp
theorem Qa (h:k<N):Ng a x N k l=(a k l||x k l):=by unfold Ng;rw[decide_eq_true h];simp
theorem Nh:Ng a x i i l=a i l:=by unfold Ng;simp
theorem Ni:Ng a x (i+1) k l=if k=i then(a i l||x i l) else Ng a x i k l:=by
 unfold Ng;by_cases h:k=i
 ·subst h;rw[if_pos rfl,decide_eq_true (show k<k+1 by omega)];simp
 ·rw[if_neg h,show decide (k<i+1)=decide (k<i) from decide_eq_decide.2 acK]
def zw (x:Nat→Nat→Bool)(i k j l:Nat):Bool:=qk x i k l||(decide (k≤l)&&decide (l<j)&&qk x i k k&&x k l)
def Nj (N:Nat)(x:Nat→Nat→Bool)(i k l:Nat):Bool:=if k<i then qk x k N l else decide (l=k)
theorem R1:∀ {k:Nat},k≤i→qk x i k l=decide (l=i)
 | 0,_=>rfl
 | k+1,h=>by rw[qk,R1 acK,decide_eq_false (show ¬i≤k by omega)];simp
theorem J4:zw x i k k l=qk x i k l:=by
 unfold zw;by_cases h:k≤l
 ·rw[decide_eq_false (show ¬l<k by omega)];simp
 ·rw[decide_eq_false h];simp
theorem Nk:zw x i k j k=qk x i k k:=by unfold zw;cases qk x i k k<;>simp
theorem Qb (hi:i≤k)(h:l<j∨qk x i k k=false):zw x i k j l=qk x i (k+1) l:=by
 unfold zw;rw[qk,decide_eq_true hi];rcases h with h|h
 ·rw[decide_eq_true h];simp
 ·rw[h];simp
theorem Et (hk:k≤j)(ha:qk x i k k=true):zw x i k (j+1) l=if l=j then(zw x i k j j||x k j) else zw x i k j l:=by
 by_cases h:l=j
 ·subst h;rw[if_pos rfl];unfold zw;rw[decide_eq_true hk,decide_eq_true (show l<l+1 by omega),decide_eq_false (show ¬l<l by omega),ha];simp
 ·rw[if_neg h];unfold zw;rw[show decide (l<j+1)=decide (l<j) from decide_eq_decide.2 acK]
theorem J5:Nj N x 0 k l=Em true k l:=by unfold Nj Em;simp
theorem Nl:Nj N x i i l=decide (l=i):=by unfold Nj;rw[if_neg (Nat.lt_irrefl i)]
theorem Qc (h:k<N):Nj N x N k l=qk x k N l:=by unfold Nj;rw[if_pos h]
theorem Nn:Nj N x (i+1) k l=if k=i then qk x i N l else Nj N x i k l:=by
 unfold Nj;by_cases h:k=i
 ·subst h;rw[if_pos acK,if_pos rfl]
 ·rw[if_neg h];by_cases q:k<i
  ·rw[if_pos q,if_pos acK]
  ·rw[if_neg q,if_neg acK]
def Eu (w s:List Int)(i k l:Nat):Bool:=decide (l=i+1)&&decide (w.getD i default∈s.take k)
def Li (w s:List Int)(i k l:Nat):Bool:=decide (k<i)&&R0 w s k l
theorem J6 {w:List Int}:Eu w s i 0 l=false:=by unfold Eu;simp
theorem Qd {w:List Int}(h:s.length≤k):Eu w s i k l=R0 w s i l:=by unfold Eu R0;rw[aaB h]
theorem Ev {w:List Int}(h:k<s.length):Eu w s i (k+1) l=if l=i+1 then(Eu w s i k (i+1)||decide (s.getD k default=w.getD i default)) else Eu w s i k l:=by
 unfold Eu;by_cases q:l=i+1
 ·subst q;rw[if_pos rfl,decide_eq_true rfl,abm,abm,List.take_add_one,aal h,aag (l:=s),aal h];refine abU.2 ?_;simp only[Option.toList_some,aaU,aay,decide_eq_true_eq,aba,ace];exact or_congr_right eq_comm
 ·rw[if_neg q,decide_eq_false q];rfl
theorem J7 {w:List Int}:Li w s 0 k l=Em false k l:=by unfold Li Em;simp
theorem No {w:List Int}:Li w s i i l=false:=by unfold Li;simp
theorem Qe {w:List Int}(h:k<i):Li w s i k l=R0 w s k l:=by unfold Li;rw[decide_eq_true h];rfl
theorem Np {w:List Int}:Li w s (i+1) k l=if k=i then R0 w s i l else Li w s i k l:=by
 unfold Li;by_cases h:k=i
 ·subst h;rw[if_pos rfl,decide_eq_true (show k<k+1 by omega)];rfl
 ·rw[if_neg h,show decide (k<i+1)=decide (k<i) from decide_eq_decide.2 acK]
end
theorem rh {r:Rx}(h:aR r=true):(0≤r.kind∧r.kind≤5)∧(r.kind=5→r.kids.length=1)∧(r.kind=0∨r.kind=1∨r.kind=2→r.kids.length=0):=by
 have hk:0≤r.kind∧r.kind≤5:=by
  by_cases q:r.kind<0∨5<r.kind
  ·rw[ux q] at h;cases h
  ·omega
 refine⟨hk,fun q=>?_,fun q=>?_⟩
 ·rw[iX q] at h;simp only[aax,decide_eq_true_eq] at h;exact h.2.1
 ·rcases q with q|q|q
  ·rw[jE (.inl q)] at h;simp only[aax,decide_eq_true_eq] at h;exact h.2
  ·rw[jE (.inr q)] at h;simp only[aax,decide_eq_true_eq] at h;exact h.2
  ·rw[mi q] at h;simp only[aax,decide_eq_true_eq] at h;exact h.1
theorem GK {r:Rx}(h:aR r=true){m:Nat}(hm:m<r.kids.length):aR (r.kids.getD m default)=true:=by
 obtain⟨h1,h2,h3⟩:=rh h;rcases(by omega:(r.kind=0∨r.kind=1∨r.kind=2)∨(r.kind=3∨r.kind=4)∨r.kind=5) with q|q|q
 ·have:=h3 q;omega
 ·rw[lU q] at h;simp only[aax,aa5,abH,Bool.not_eq_true,Bool.not_eq_false'] at h;have:=h.2 _ (aQ hm);simpa using this
 ·have:=h2 q;have e:m=0:=acK;subst e;rw[iX q] at h;simp only[aax,decide_eq_true_eq] at h;exact h.2.2
section
variable {w:List Int}{r:Rx}{i m:Nat}
abbrev qF (r:Rx):Bool:=decide (r.kind=1)||(decide (r.kind=3)||decide (r.kind=5))
theorem X6 (h:r.kind=1):qF r=true:=by simp[qF,h]
theorem X7 (h:r.kind=3):qF r=true:=by simp[qF,h]
theorem X8 (h:r.kind≠1)(h3:r.kind≠3):qF r=decide (r.kind=5):=by simp[qF,h,h3]
noncomputable def f0 (w:List Int)(r:Rx)(i:Nat):Nat→Nat→Bool:=if r.kind=2 then Li w r.syms i else Em (qF r)
theorem Nq:b9 (w.length+1) (Em (qF r))=b9 (w.length+1) (f0 w r 0):=iZ fun k l _ _=>by
 unfold f0;by_cases h:r.kind=2
 ·rw[if_pos h,J7,show qF r=false from by simp[qF,h]]
 ·rw[if_neg h]
theorem Cl (h:r.kind=2):f0 w r i=Li w r.syms i:=if_pos h
theorem Tp (hk:0≤r.kind∧r.kind≤5)(h:r.kind≠2→i=0)(hx:r.kind=2→i=w.length):b9 (w.length+1) (f0 w r i)=b9 (w.length+1) (KF w r 0):=iZ fun k l hkk hl=>by
 by_cases q:r.kind=2
 ·rw[Cl q,hx q,←X4 q hkk hl];by_cases e:k<w.length
  ·exact Qe e
  ·unfold Li R0;rw[decide_eq_false e,decide_eq_false (show ¬l=k+1 by omega)];rfl
 ·unfold f0;rw[if_neg q];exact U6 acK hl
noncomputable def f1 (w:List Int)(r:Rx)(m:Nat):Nat→Nat→Bool:=if r.kind=3 then KF w r (m+1) else KF w r m
noncomputable def f2 (w:List Int)(r:Rx)(m:Nat):Nat→Nat→Bool:=if r.kind=3∨r.kind=4 then KF w r (m+1) else KF w r m
noncomputable abbrev eC (w:List Int)(r:Rx)(m:Nat):Nat→Nat→Bool:=rB w (r.kids.getD m default)
noncomputable def a4 (w:List Int)(r:Rx)(m i:Nat):Nat→Nat→Bool:=if r.kind=4 then Ng (KF w r m) (eC w r m) i else f1 w r m
noncomputable def a6 (w:List Int)(r:Rx)(m i:Nat):Nat→Nat→Bool:=if r.kind=5 then Nj (w.length+1) (eC w r m) i else f2 w r m
theorem X9 (h:r.kind=3)(hm:m<r.kids.length):b9 (w.length+1) (Ux (w.length+1) (KF w r m) (eC w r m))=b9 (w.length+1) (f1 w r m):=iZ fun k l _ hl=>by unfold f1;rw[if_pos h];exact X2 h hm hl
theorem U7 (h:r.kind≠3):f1 w r m=KF w r m:=if_neg h
theorem Nr:b9 (w.length+1) (f1 w r m)=b9 (w.length+1) (a4 w r m 0):=iZ fun k l _ _=>by
 unfold a4;by_cases h:r.kind=4
 ·rw[if_pos h,J3,U7 acK]
 ·rw[if_neg h]
theorem wU (h:r.kind=4):a4 w r m i=Ng (KF w r m) (eC w r m) i:=if_pos h
theorem Tq (hm:m<r.kids.length)(h:r.kind≠4→i=0)(hx:r.kind=4→i=w.length+1):b9 (w.length+1) (a4 w r m i)=b9 (w.length+1) (f2 w r m):=iZ fun k l hk _=>by
 by_cases q:r.kind=4
 ·rw[wU q,hx q,Qa hk];unfold f2;rw[if_pos (.inr q)];exact X3 q hm
 ·unfold a4 f1 f2;rw[if_neg q];by_cases q3:r.kind=3
  ·rw[if_pos q3,if_pos (.inl q3)]
  ·rw[if_neg q3,if_neg acK]
theorem Ns (h5:r.kind=5→r.kids.length=1)(hm:m<r.kids.length):b9 (w.length+1) (f2 w r m)=b9 (w.length+1) (a6 w r m 0):=iZ fun k l _ hl=>by
 unfold a6;by_cases h:r.kind=5
 ·have:=h5 h;have e:m=0:=acK;subst e;rw[if_pos h,J5];unfold f2;rw[if_neg acK,←U6 acK hl]
  congr 1
  simp[h]
 ·rw[if_neg h]
theorem wV (h:r.kind=5):a6 w r m i=Nj (w.length+1) (eC w r m) i:=if_pos h
theorem Tr (hv : aR r = true)(hm : m < r.kids.length)(h : r.kind ≠ 5 → i = 0)(hx : r.kind = 5 → i = w.length + 1) : b9 (w.length + 1) (a6 w r m i) = b9 (w.length + 1) (KF w r (m + 1)) := iZ fun k l hk hl => by
 obtain⟨h1,h2,h3⟩:=rh hv;by_cases q:r.kind=5
 · have := h2 q
   have e:m=0:=acK;subst e;rw[wV q,hx q,Qc hk];exact X5 q hl
 · unfold a6 f2
   rw [if_neg q, if_pos (by have : ¬ (r.kind = 0 ∨ r.kind = 1 ∨ r.kind = 2) := fun h => by have := h3 h; omega
                            omega)]
theorem Ts (hv:aR r=true):b9 (w.length+1) (KF w r r.kids.length)=b9 (w.length+1) (rB w r):=iZ fun k l _ _=>by obtain⟨h1,h2,h3⟩:=rh hv;exact To h1 h2
end
end Go.We
namespace Go.Wc
def order:List Int→List Int→Int
 | [],[]=>0
 | [],_ :: _=>-1
 | _ :: _,[]=>1
 | x :: xs,y :: ys=>if x<y then -1 else if y<x then 1 else order xs ys
open Go.Am
def Xy (n:Int):Prop:=-9223372036854775808≤n∧n≤9223372036854775807
def fx (l:List Int):Prop:=∀x∈l,Xy x
variable{l:List Int}
theorem fx.get (h:fx l)(k:Nat):Xy (l.getD k default):=by
 rw[aag];cases hk:l[k]? with
 | none=>exact⟨by decide,by decide⟩
 | some x=>exact h x (aaW hk)
theorem fx.take (h:fx l)(k:Nat):fx (l.take k):=fun x hx=>h x (abv hx)
theorem take_succ {α:Type} [Inhabited α]{l:List α}{k:Nat}(h:k<l.length):l.take (k+1)=l.take k++[l.getD k default]:=by rw[List.take_succ_eq_append_getElem h,aag,aal h];rfl
def iO (n most:Int):Int:=(if n<0 then -(n+1) else n) % most
theorem uN {n most:Int}(h:0<most):0≤iO n most∧iO n most<most:=⟨Int.emod_nonneg _ acK,acF _ h⟩
def kN (l:List Int)(i most:Int):Int:=if i<0∨(l.length:Int)≤i then 0 else iO (l.getD i.toNat default) most
theorem js {i most:Int}(h:0<most):0≤kN l i most∧kN l i most<most:=by
 unfold kN;split
 ·omega
 ·exact uN h
structure cK where
 text:List UInt8
 base:Int
 mark:Int
 cap:Int
 width:Int
 deriving Inhabited,DecidableEq
def GL (x:cK):AV:=.agg [ah x.text,int x.base,int x.mark,int x.cap,int x.width]
abbrev af (a:List cK):AV:=.sl (a.map GL)
def isL (a:List cK)(x:Int):Bool:=decide (0≤x)&&decide (x<a.length)
def lets (a:List cK)(w:List Int):List Int:=w.filter (isL a)
end Go.Wc
namespace Go.Proofs
open Go.Shelf
def Tryz.J8:Go.Shelf.Ren:=⟨fun|6=>251|15=>87|14=>258|28=>131|29=>132|20=>269|21=>270|22=>271|23=>272|24=>273|25=>274|26=>275|27=>276|46=>280|47=>189|48=>190|49=>281|50=>282|57=>284|n=>n,fun|22=>85|24=>87|25=>271|3=>3|39=>154|0=>0|53=>216|55=>218|4=>4|46=>209|45=>208|50=>213|5=>5|9=>9|66=>265|70=>269|76=>294|77=>295|n=>n,fun|n=>n⟩
theorem Tryz.j1:Go.Proofs.SlLaysF0.n6 Tryz.prog Tryz.J8:={
 mixed:=acL
 f6:=⟨Tryz.f251.name,by decide,Tryz.func251.trans (congrArg some acL)⟩
 f14:=⟨Tryz.f258.name,by decide,Tryz.func258.trans (congrArg some acL)⟩
 f15:=Tryz.func87.trans (congrArg some acL)
 f20:=⟨Tryz.f269.name,by decide,Tryz.func269.trans (congrArg some acL)⟩
 f21:=⟨Tryz.f270.name,by decide,Tryz.func270.trans (congrArg some acL)⟩
 f22:=⟨Tryz.f271.name,by decide,Tryz.func271.trans (congrArg some acL)⟩
 f23:=⟨Tryz.f272.name,by decide,Tryz.func272.trans (congrArg some acL)⟩
 f24:=⟨Tryz.f273.name,by decide,Tryz.func273.trans (congrArg some acL)⟩
 f25:=⟨Tryz.f274.name,by decide,Tryz.func274.trans (congrArg some acL)⟩
 f26:=⟨Tryz.f275.name,by decide,Tryz.func275.trans (congrArg some acL)⟩
 f27:=⟨Tryz.f276.name,by decide,Tryz.func276.trans (congrArg some acL)⟩
 f28:=Tryz.func131.trans (congrArg some acL)
 f29:=Tryz.func132.trans (congrArg some acL)
 f46:=⟨Tryz.f280.name,by decide,Tryz.func280.trans (congrArg some acL)⟩
 f47:=Tryz.func189.trans (congrArg some acL)
 f48:=Tryz.func190.trans (congrArg some acL)
 f49:=⟨Tryz.f281.name,by decide,Tryz.func281.trans (congrArg some acL)⟩
 f50:=⟨Tryz.f282.name,by decide,Tryz.func282.trans (congrArg some acL)⟩
 f57:=⟨Tryz.f284.name,by decide,Tryz.func284.trans (congrArg some acL)⟩
 t0:=Tryz.underlying0
 a0:=Tryz.isAgg0
 z0:=Tryz.sizeOf0
 v0:=Tryz.zeroValue0
 t3:=Tryz.underlying3
 a3:=Tryz.isAgg3
 z3:=Tryz.sizeOf3
 v3:=Tryz.zeroValue3
 t4:=Tryz.underlying4
 a4:=Tryz.isAgg4
 z4:=Tryz.sizeOf4
 v4:=Tryz.zeroValue4
 t5:=Tryz.underlying5
 a5:=Tryz.isAgg5
 z5:=Tryz.sizeOf5
 v5:=Tryz.zeroValue5
 t9:=Tryz.underlying9
 a9:=Tryz.isAgg9
 z9:=Tryz.sizeOf9
 v9:=Tryz.zeroValue9
 t22:=Tryz.underlying85
 a22:=Tryz.isAgg85
 z22:=Tryz.sizeOf85
 v22:=Tryz.zeroValue85
 t25:=Tryz.underlying271
 a25:=Tryz.isAgg271
 z25:=Tryz.sizeOf271
 v25:=Tryz.zeroValue271
 t39:=Tryz.underlying154
 a39:=Tryz.isAgg154
 z39:=Tryz.sizeOf154
 v39:=Tryz.zeroValue154
 t45:=Tryz.underlying208
 a45:=Tryz.isAgg208
 z45:=Tryz.sizeOf208
 v45:=Tryz.zeroValue208
 t46:=Tryz.underlying209
 a46:=Tryz.isAgg209
 z46:=Tryz.sizeOf209
 v46:=Tryz.zeroValue209
 t50:=Tryz.underlying213
 a50:=Tryz.isAgg213
 z50:=Tryz.sizeOf213
 v50:=Tryz.zeroValue213
 t53:=Tryz.underlying216
 a53:=Tryz.isAgg216
 z53:=Tryz.sizeOf216
 v53:=Tryz.zeroValue216
 t55:=Tryz.underlying218
 a55:=Tryz.isAgg218
 z55:=Tryz.sizeOf218
 v55:=Tryz.zeroValue218
 t66:=Tryz.underlying265
 a66:=Tryz.isAgg265
 z66:=Tryz.sizeOf265
 v66:=Tryz.zeroValue265
 t70:=Tryz.underlying269
 a70:=Tryz.isAgg269
 z70:=Tryz.sizeOf269
 v70:=Tryz.zeroValue269
 t76:=Tryz.underlying294
 a76:=Tryz.isAgg294
 z76:=Tryz.sizeOf294
 v76:=Tryz.zeroValue294
 t77:=Tryz.underlying295
 a77:=Tryz.isAgg295
 z77:=Tryz.sizeOf295
 v77:=Tryz.zeroValue295 }
def Tryz.J9:Go.Shelf.Ren:=⟨fun|5=>250|8=>87|7=>257|19=>131|20=>132|10=>261|11=>262|12=>263|13=>264|14=>265|15=>266|16=>255|17=>267|18=>268|30=>277|31=>189|32=>190|33=>278|34=>279|35=>133|40=>283|n=>n,fun|23=>22|25=>3|3=>3|32=>154|22=>22|0=>0|44=>216|46=>218|4=>4|36=>209|35=>208|41=>213|5=>5|9=>9|53=>265|57=>269|63=>294|64=>295|n=>n,fun|n=>n⟩
theorem Tryz.R2:Go.Proofs.SlLaysM.n5 Tryz.prog Tryz.J9:={
 mixed:=acL
 f5:=⟨Tryz.f250.name,by decide,Tryz.func250.trans (congrArg some acL)⟩
 f7:=⟨Tryz.f257.name,by decide,Tryz.func257.trans (congrArg some acL)⟩
 f8:=Tryz.func87.trans (congrArg some acL)
 f10:=⟨Tryz.f261.name,by decide,Tryz.func261.trans (congrArg some acL)⟩
 f11:=⟨Tryz.f262.name,by decide,Tryz.func262.trans (congrArg some acL)⟩
 f12:=⟨Tryz.f263.name,by decide,Tryz.func263.trans (congrArg some acL)⟩
 f13:=⟨Tryz.f264.name,by decide,Tryz.func264.trans (congrArg some acL)⟩
 f14:=⟨Tryz.f265.name,by decide,Tryz.func265.trans (congrArg some acL)⟩
 f15:=⟨Tryz.f266.name,by decide,Tryz.func266.trans (congrArg some acL)⟩
 f16:=⟨Tryz.f255.name,by decide,Tryz.func255.trans (congrArg some acL)⟩
 f17:=⟨Tryz.f267.name,by decide,Tryz.func267.trans (congrArg some acL)⟩
 f18:=⟨Tryz.f268.name,by decide,Tryz.func268.trans (congrArg some acL)⟩
 f19:=Tryz.func131.trans (congrArg some acL)
 f20:=Tryz.func132.trans (congrArg some acL)
 f30:=⟨Tryz.f277.name,by decide,Tryz.func277.trans (congrArg some acL)⟩
 f31:=Tryz.func189.trans (congrArg some acL)
 f32:=Tryz.func190.trans (congrArg some acL)
 f33:=⟨Tryz.f278.name,by decide,Tryz.func278.trans (congrArg some acL)⟩
 f34:=⟨Tryz.f279.name,by decide,Tryz.func279.trans (congrArg some acL)⟩
 f35:=⟨Tryz.f133.name,by decide,Tryz.func133.trans (congrArg some acL)⟩
 f40:=⟨Tryz.f283.name,by decide,Tryz.func283.trans (congrArg some acL)⟩
 t0:=Tryz.underlying0
 a0:=Tryz.isAgg0
 z0:=Tryz.sizeOf0
 v0:=Tryz.zeroValue0
 t3:=Tryz.underlying3
 a3:=Tryz.isAgg3
 z3:=Tryz.sizeOf3
 v3:=Tryz.zeroValue3
 t4:=Tryz.underlying4
 a4:=Tryz.isAgg4
 z4:=Tryz.sizeOf4
 v4:=Tryz.zeroValue4
 t5:=Tryz.underlying5
 a5:=Tryz.isAgg5
 z5:=Tryz.sizeOf5
 v5:=Tryz.zeroValue5
 t9:=Tryz.underlying9
 a9:=Tryz.isAgg9
 z9:=Tryz.sizeOf9
 v9:=Tryz.zeroValue9
 t22:=Tryz.underlying22
 a22:=Tryz.isAgg22
 z22:=Tryz.sizeOf22
 v22:=Tryz.zeroValue22
 t23:=Tryz.underlying22
 a23:=Tryz.isAgg22
 z23:=Tryz.sizeOf22
 v23:=Tryz.zeroValue22
 t25:=Tryz.underlying3
 a25:=Tryz.isAgg3
 z25:=Tryz.sizeOf3
 v25:=Tryz.zeroValue3
 t32:=Tryz.underlying154
 a32:=Tryz.isAgg154
 z32:=Tryz.sizeOf154
 v32:=Tryz.zeroValue154
 t35:=Tryz.underlying208
 a35:=Tryz.isAgg208
 z35:=Tryz.sizeOf208
 v35:=Tryz.zeroValue208
 t36:=Tryz.underlying209
 a36:=Tryz.isAgg209
 z36:=Tryz.sizeOf209
 v36:=Tryz.zeroValue209
 t41:=Tryz.underlying213
 a41:=Tryz.isAgg213
 z41:=Tryz.sizeOf213
 v41:=Tryz.zeroValue213
 t44:=Tryz.underlying216
 a44:=Tryz.isAgg216
 z44:=Tryz.sizeOf216
 v44:=Tryz.zeroValue216
 t46:=Tryz.underlying218
 a46:=Tryz.isAgg218
 z46:=Tryz.sizeOf218
 v46:=Tryz.zeroValue218
 t53:=Tryz.underlying265
 a53:=Tryz.isAgg265
 z53:=Tryz.sizeOf265
 v53:=Tryz.zeroValue265
 t57:=Tryz.underlying269
 a57:=Tryz.isAgg269
 z57:=Tryz.sizeOf269
 v57:=Tryz.zeroValue269
 t63:=Tryz.underlying294
 a63:=Tryz.isAgg294
 z63:=Tryz.sizeOf294
 v63:=Tryz.zeroValue294
 t64:=Tryz.underlying295
 a64:=Tryz.isAgg295
 z64:=Tryz.sizeOf295
 v64:=Tryz.zeroValue295 }
def Tryz.Nt:Go.Shelf.Ren:=⟨fun|35=>233|n=>n,fun|22=>85|23=>87|3=>3|4=>4|0=>0|n=>n,fun|n=>n⟩
theorem Tryz.eo:Go.Proofs.SlLaysE0.n35 Tryz.prog Tryz.Nt:={
 mixed:=acL
 f35:=⟨Tryz.f233.name,by decide,Tryz.func233.trans (congrArg some acL)⟩
 t0:=Tryz.underlying0
 a0:=Tryz.isAgg0
 z0:=Tryz.sizeOf0
 v0:=Tryz.zeroValue0
 t3:=Tryz.underlying3
 a3:=Tryz.isAgg3
 z3:=Tryz.sizeOf3
 v3:=Tryz.zeroValue3
 t4:=Tryz.underlying4
 a4:=Tryz.isAgg4
 z4:=Tryz.sizeOf4
 v4:=Tryz.zeroValue4
 t22:=Tryz.underlying85
 a22:=Tryz.isAgg85
 z22:=Tryz.sizeOf85
 v22:=Tryz.zeroValue85 }
def Tryz.Ka:Go.Shelf.Ren:=⟨fun|6=>56|15=>87|14=>86|28=>131|29=>132|20=>123|21=>124|22=>125|23=>126|24=>127|25=>128|26=>129|27=>130|46=>188|47=>189|48=>190|49=>191|50=>192|57=>230|n=>n,fun|22=>52|24=>22|25=>116|3=>3|39=>154|0=>0|53=>216|55=>218|4=>4|46=>209|45=>208|50=>213|5=>5|9=>9|66=>265|70=>269|76=>294|77=>295|n=>n,fun|n=>n⟩
theorem Tryz.vL:Go.Proofs.SlLaysF.n6 Tryz.prog Tryz.Ka:={
 mixed:=acL
 f6:=⟨Tryz.f56.name,by decide,Tryz.func56.trans (congrArg some acL)⟩
 f14:=⟨Tryz.f86.name,by decide,Tryz.func86.trans (congrArg some acL)⟩
 f15:=Tryz.func87.trans (congrArg some acL)
 f20:=⟨Tryz.f123.name,by decide,Tryz.func123.trans (congrArg some acL)⟩
 f21:=⟨Tryz.f124.name,by decide,Tryz.func124.trans (congrArg some acL)⟩
 f22:=⟨Tryz.f125.name,by decide,Tryz.func125.trans (congrArg some acL)⟩
 f23:=⟨Tryz.f126.name,by decide,Tryz.func126.trans (congrArg some acL)⟩
 f24:=⟨Tryz.f127.name,by decide,Tryz.func127.trans (congrArg some acL)⟩
 f25:=⟨Tryz.f128.name,by decide,Tryz.func128.trans (congrArg some acL)⟩
 f26:=⟨Tryz.f129.name,by decide,Tryz.func129.trans (congrArg some acL)⟩
 f27:=⟨Tryz.f130.name,by decide,Tryz.func130.trans (congrArg some acL)⟩
 f28:=Tryz.func131.trans (congrArg some acL)
 f29:=Tryz.func132.trans (congrArg some acL)
 f46:=⟨Tryz.f188.name,by decide,Tryz.func188.trans (congrArg some acL)⟩
 f47:=Tryz.func189.trans (congrArg some acL)
 f48:=Tryz.func190.trans (congrArg some acL)
 f49:=⟨Tryz.f191.name,by decide,Tryz.func191.trans (congrArg some acL)⟩
 f50:=⟨Tryz.f192.name,by decide,Tryz.func192.trans (congrArg some acL)⟩
 f57:=⟨Tryz.f230.name,by decide,Tryz.func230.trans (congrArg some acL)⟩
 t0:=Tryz.underlying0
 a0:=Tryz.isAgg0
 z0:=Tryz.sizeOf0
 v0:=Tryz.zeroValue0
 t3:=Tryz.underlying3
 a3:=Tryz.isAgg3
 z3:=Tryz.sizeOf3
 v3:=Tryz.zeroValue3
 t4:=Tryz.underlying4
 a4:=Tryz.isAgg4
 z4:=Tryz.sizeOf4
 v4:=Tryz.zeroValue4
 t5:=Tryz.underlying5
 a5:=Tryz.isAgg5
 z5:=Tryz.sizeOf5
 v5:=Tryz.zeroValue5
 t9:=Tryz.underlying9
 a9:=Tryz.isAgg9
 z9:=Tryz.sizeOf9
 v9:=Tryz.zeroValue9
 t22:=Tryz.underlying52
 a22:=Tryz.isAgg52
 z22:=Tryz.sizeOf52
 v22:=Tryz.zeroValue52
 a24:=Tryz.isAgg22
 z24:=Tryz.sizeOf22
 t25:=Tryz.underlying116
 a25:=Tryz.isAgg116
 z25:=Tryz.sizeOf116
 v25:=Tryz.zeroValue116
 t39:=Tryz.underlying154
 a39:=Tryz.isAgg154
 z39:=Tryz.sizeOf154
 v39:=Tryz.zeroValue154
 t45:=Tryz.underlying208
 a45:=Tryz.isAgg208
 z45:=Tryz.sizeOf208
 v45:=Tryz.zeroValue208
 t46:=Tryz.underlying209
 a46:=Tryz.isAgg209
 z46:=Tryz.sizeOf209
 v46:=Tryz.zeroValue209
 t50:=Tryz.underlying213
 a50:=Tryz.isAgg213
 z50:=Tryz.sizeOf213
 v50:=Tryz.zeroValue213
 t53:=Tryz.underlying216
 a53:=Tryz.isAgg216
 z53:=Tryz.sizeOf216
 v53:=Tryz.zeroValue216
 t55:=Tryz.underlying218
 a55:=Tryz.isAgg218
 z55:=Tryz.sizeOf218
 v55:=Tryz.zeroValue218
 t66:=Tryz.underlying265
 a66:=Tryz.isAgg265
 z66:=Tryz.sizeOf265
 v66:=Tryz.zeroValue265
 t70:=Tryz.underlying269
 a70:=Tryz.isAgg269
 z70:=Tryz.sizeOf269
 v70:=Tryz.zeroValue269
 t76:=Tryz.underlying294
 a76:=Tryz.isAgg294
 z76:=Tryz.sizeOf294
 v76:=Tryz.zeroValue294
 t77:=Tryz.underlying295
 a77:=Tryz.isAgg295
 z77:=Tryz.sizeOf295
 v77:=Tryz.zeroValue295 }
end Go.Proofs
