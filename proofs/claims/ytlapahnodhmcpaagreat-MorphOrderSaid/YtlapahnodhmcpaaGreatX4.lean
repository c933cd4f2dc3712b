/-
  Part of the proof.
-/
import Derived.Test.YtlapahnodhmcpaaGreatX3
import Derived.Test.YtlapahnodhmcpaaGreatRows
import Derived.Shelf.SlGeneric
import Derived.Shelf.SlSortCmp.NoneTotal
import Derived.Ground.SlsfProg
import Derived.Ground.SlgmProg
import Derived.Ground.SlgnProg
import Derived.Shelf.SlicesQ.Reverse
import Derived.Shelf.SlSortCmp.WholeK
import Derived.Lib.IndexAny
import Derived.Shelf.SlSortCmp.Whole1
set_option linter.unusedVariables false
set_option linter.unusedSectionVars false
set_option linter.unusedSimpArgs false
set_option maxRecDepth 100000
set_option maxHeartbeats 40000000
namespace Go.We
open Go.Am Go.Wb
noncomputable def pB (p:Prop):Bool:=@decide p (Classical.propDecidable p)
theorem kA {p:Prop}:pB p=true↔p:=by unfold pB;exact @decide_eq_true_iff p (Classical.propDecidable p)
theorem AZ {p:Prop}{b:Bool}(h:b=true↔p):b=pB p:=acq.2 (h.trans kA.symm)
def sg (w:List Int)(i j:Nat):List Int:=(w.drop i).take (j-i)
theorem IC (w:List Int)(i:Nat):sg w i i=[]:=by unfold sg;rw[acM];rfl
theorem EB {w:List Int}{i l j:Nat}(h1:i≤l)(h2:l≤j):sg w i j=sg w i l++sg w l j:=by unfold sg;rw[show j-i=(l-i)+(j-l) by omega,List.take_add,List.drop_drop,show i+(l-i)=l by omega]
theorem G1 {w:List Int}{i j:Nat}(h1:i≤j)(h2:j≤w.length):(sg w i j).length=j-i:=by unfold sg;rw[aaO,aaX];omega
theorem Nv {w:List Int}{i:Nat}(h:i<w.length):sg w i (i+1)=[w.getD i default]:=by unfold sg;rw[show i+1-i=1 by omega,ab4 h,aax,aaF h];rfl
theorem EC {w u v:List Int}{i j:Nat}(h1:i≤j)(h2:j≤w.length)(h:sg w i j=u++v):∃l,i≤l∧l≤j∧u=sg w i l∧v=sg w l j:=by
 have hl:=congrArg List.length h;rw[G1 h1 h2,aaM] at hl;refine⟨i+u.length,adh,adh,?_,?_⟩
 ·have e:=congrArg (List.take u.length) h;rw[List.take_left' rfl] at e;refine e.symm.trans ?_;unfold sg;rw[List.take_take,show min u.length (j-i)=i+u.length-i by omega]
 ·have e:=congrArg (List.drop u.length) h;rw[List.drop_left' rfl] at e;refine e.symm.trans ?_;unfold sg;rw[List.drop_take,List.drop_drop,show j-i-u.length=j-(i+u.length) by omega]
theorem TQ (w:List Int):sg w 0 w.length=w:=by unfold sg;simp
noncomputable def rj (w:List Int)(r:Rx)(i j:Nat):Bool:=pB (i≤j∧fl r (sg w i j))
def Kw (r:Rx)(m:Nat)(u:List Int):Prop:=if r.kind=1 then u=[] else if r.kind=2 then ∃a,u=[a]∧a∈r.syms else if r.kind=3 then kc (r.kids.take m) u else if r.kind=4 then zL (r.kids.take m) u else if r.kind=5 then(if m=0 then u=[] else dV (fl (r.kids.getD 0 default)) u) else False
noncomputable def KF (w:List Int)(r:Rx)(m i j:Nat):Bool:=pB (i≤j∧Kw r m (sg w i j))
theorem Qs {a b:Nat→Nat→Bool}{i k j:Nat}:oV a b i k j=true↔∃l,l<k∧i≤l∧l≤j∧a i l=true∧b l j=true:=by
 unfold oV;rw[abk];constructor
 ·rintro⟨l,hl,h⟩;simp only[aaZ,decide_eq_true_eq] at h;exact⟨l,aba.1 hl,h.1.1.1,h.1.1.2,h.1.2,h.2⟩
 ·rintro⟨l,h1,h2,h3,h4,h5⟩;refine⟨l,aba.2 h1,?_⟩;simp only[aaZ,decide_eq_true_eq];exact⟨⟨⟨h2,h3⟩,h4⟩,h5⟩
section
variable {w:List Int}{r:Rx}{m i j:Nat}
theorem Nw (h:r.kind=3)(u:List Int):Kw r m u↔kc (r.kids.take m) u:=by unfold Kw;rw[if_neg adh,if_neg adh,if_pos h]
theorem Qt (h:r.kind=4)(u:List Int):Kw r m u↔zL (r.kids.take m) u:=by unfold Kw;rw[if_neg adh,if_neg adh,if_neg adh,if_pos h]
theorem TR (h:r.kind=5)(u:List Int):Kw r m u↔(if m=0 then u=[] else dV (fl (r.kids.getD 0 default)) u):=by unfold Kw;rw[if_neg adh,if_neg adh,if_neg adh,if_neg adh,if_pos h]
theorem A0 (hm:m<r.kids.length):r.kids.take (m+1)=r.kids.take m++[r.kids.getD m default]:=by rw[List.take_add_one,aaF hm,aax,aaF hm];rfl
theorem YP (h:r.kind=3)(hm:m<r.kids.length)(hj:j<w.length+1):Vg (w.length+1) (KF w r m) (rj w (r.kids.getD m default)) i j=KF w r (m+1) i j:=by
 refine AZ ?_;unfold Vg;rw[Qs,Nw h,A0 hm,pZ];constructor
 ·rintro⟨l,h1,h2,h3,h4,h5⟩;obtain⟨_,h4⟩:=kA.1 h4;obtain⟨_,h5⟩:=kA.1 h5;exact⟨adh,_,_,EB h2 h3,(Nw h _).1 h4,(jb _ _).2 h5⟩
 ·rintro⟨h1,u,v,h2,h3,h4⟩;obtain⟨l,q1,q2,rfl,rfl⟩:=EC h1 adh h2;exact⟨l,adh,q1,q2,kA.2 ⟨q1,(Nw h _).2 h3⟩,kA.2 ⟨q2,(jb _ _).1 h4⟩⟩
theorem YQ (h:r.kind=4)(hm:m<r.kids.length):(KF w r m i j||rj w (r.kids.getD m default) i j)=KF w r (m+1) i j:=by
 refine AZ ?_;rw[abC,Qt h,A0 hm,gD];unfold KF rj;rw[kA,kA,Qt h,gD];constructor
 ·rintro(⟨h1,x,h2,h3⟩|⟨h1,h2⟩)
  ·exact⟨h1,x,acx _ h2,h3⟩
  ·exact⟨h1,_,acs _ (aaY.2 rfl),h2⟩
 ·rintro⟨h1,x,h2,h3⟩;rcases abl.1 h2 with h2|h2
  ·exact .inl ⟨h1,x,h2,h3⟩
  ·rw[aaY.1 h2] at h3;exact .inr ⟨h1,h3⟩
theorem G2 (h1:i≤j)(h2:j≤w.length):sg w i j=[]↔j=i:=by
 constructor
 ·intro h;have:=G1 h1 h2;rw[h] at this;simp at this;omega
 ·rintro rfl;exact IC w _
theorem VP (h:r.kind=0∨r.kind=1∨r.kind=3∨r.kind=4∨r.kind=5)(hj:j<w.length+1):Ez (decide (r.kind=1)||(decide (r.kind=3)||decide (r.kind=5))) i j=KF w r 0 i j:=by
 refine AZ ?_;unfold Ez;simp only[aaZ,decide_eq_true_eq,abC];have key:i≤j∧sg w i j=[]↔j=i:=⟨fun⟨h1,h2⟩=>(G2 h1 adh).1 h2,fun h=>⟨adh,(G2 adh adh).2 h⟩⟩;rcases h with h|h|h|h|h
 ·simp[Kw,h]
 ·simp only[Kw,h];simp only[if_true];rw[key];simp
 ·rw[Nw h,adg,iw,key];simp[h]
 ·rw[Qt h,adg,gD];simp[h]
 ·rw[TR h,if_pos rfl,key];simp[h]
def Sq (w:List Int)(s:List Int)(i j:Nat):Bool:=decide (j=i+1)&&decide (w.getD i default∈s)
theorem YR (h:r.kind=2)(hi:i<w.length+1)(hj:j<w.length+1):Sq w r.syms i j=KF w r m i j:=by
 refine AZ ?_;unfold Sq;rw[aaZ,decide_eq_true_eq,decide_eq_true_eq];unfold Kw;rw[if_neg adh,if_pos h];constructor
 ·rintro⟨rfl,h2⟩;exact⟨adh,_,Nv adh,h2⟩
 ·rintro⟨h1,a,h2,h3⟩;have e:=G1 h1 (show j≤w.length by omega);rw[h2] at e;have e':j=i+1:=by simp at e;omega
  subst e';rw[Nv adh] at h2;injection h2 with h2;exact⟨rfl,by rw[h2];exact h3⟩
end
def qb (x:Nat→Nat→Bool)(i:Nat):Nat→Nat→Bool
 | 0,l=>decide (l=i)
 | k+1,l=>qb x i k l||(decide (i≤k)&&decide (k≤l)&&qb x i k k&&x k l)
theorem yl {x:Nat→Nat→Bool}{i k k' l:Nat}(h:k≤k')(hs:qb x i k l=true):qb x i k' l=true:=by
 induction k' with
 | zero=>rw[show k=0 by omega] at hs;exact hs
 | succ k' ih =>
   by_cases q:k=k'+1
   · rw[←q];exact hs
   · rw[qb,ih adh,Bool.true_or]
theorem Nx {x:Nat→Nat→Bool}{i:Nat}:∀{k l:Nat},qb x i k l=true→i≤l
 | 0,l,h=>by have:=of_decide_eq_true h;omega
 | k + 1, l, h => by
   rw[qb,abC] at h;rcases h with h|h
   · exact Nx h
   · simp only[aaZ,decide_eq_true_eq] at h;omega
theorem Cs {w:List Int}{y:Rx}{i:Nat}:∀{k l:Nat},qb (rj w y) i k l=true→dV (fl y) (sg w i l)
 | 0,l,h=>by rw[of_decide_eq_true h,IC];exact .nil
 | k + 1, l, h => by
   rw[qb,abC] at h;rcases h with h|h
   · exact Cs h
   · simp only [aaZ, decide_eq_true_eq] at h
     obtain⟨⟨⟨h1,h2⟩,h3⟩,h4⟩:=h;obtain⟨_,h4⟩:=kA.1 h4;rw[EB h1 h2];have key:∀{P:List Int→Prop}{u v:List Int},dV P u→P v→dV P (u++v):=fun hu hv=>by
       induction hu with
       | nil=>have:=dV.cons hv .nil;rwa [abe] at this
       | cons h1 _ ih=>rw[abr];exact .cons h1 ih
     exact key (Cs h3) h4
theorem Qu {w:List Int}{y:Rx}{i N:Nat}(hN:N=w.length+1){u:List Int}(h:dV (fl y) u):∀{p l:Nat},i≤p→p≤l→l<N→u=sg w p l→qb (rj w y) i p p=true→qb (rj w y) i N l=true:=by
 induction h with
 | nil =>
   intro p l h1 h2 h3 h4 h5;have:=(G2 (w:=w) h2 adh).1 h4.symm;subst this;exact yl adh h5
 | @cons u v hu hv ih =>
   intro p l h1 h2 h3 h4 h5;obtain⟨q,q1,q2,rfl,rfl⟩:=EC h2 adh h4.symm;refine ih (p:=q) adh q2 h3 J ?_;by_cases e:q=p
   · rw[e];exact h5
   · refine yl (k := p + 1) adh ?_
     rw[qb,abC];refine .inr ?_;simp only[aaZ,decide_eq_true_eq];exact⟨⟨⟨h1,q1⟩,h5⟩,kA.2 ⟨q1,hu⟩⟩
theorem Kl {x:Nat→Nat→Bool}{i:Nat}:qb x i i i=true:=yl (k:=0) (aaG _) (decide_eq_true rfl)
theorem YS {w:List Int}{r:Rx}{i j:Nat}(h:r.kind=5)(hj:j<w.length+1):qb (rj w (r.kids.getD 0 default)) i (w.length+1) j=KF w r 1 i j:=by
 refine AZ ?_;rw[TR h,if_neg adj];constructor
 ·exact fun hs=>⟨Nx hs,Cs hs⟩
 ·exact fun⟨h1,h2⟩=>Qu rfl h2 (aaD i) h1 hj rfl Kl
theorem TS {w:List Int}{r:Rx}{i j:Nat}(hk:0≤r.kind∧r.kind≤5)(h5:r.kind=5→r.kids.length=1):KF w r r.kids.length i j=rj w r i j:=by
 refine AZ (kA.trans ?_);rw[and_congr_right_iff];intro _;rcases(by omega:r.kind=0∨r.kind=1∨r.kind=2∨r.kind=3∨r.kind=4∨r.kind=5) with h|h|h|h|h|h
 ·exact⟨fun q=>by simp[Kw,h] at q,fun q=>(mX h _ q).elim⟩
 ·rw[mo h];simp[Kw,h]
 ·rw[nW h];simp[Kw,h]
 ·rw[vI h,Nw h,abK]
 ·rw[tt h,Qt h,abK]
 ·have hl:=h5 h;rw[vJ h,TR h,if_neg adh]
  match hk:r.kids,hl with
  | [x],_=>rw[mq];rfl
theorem ym (T:TypeId)(m:List (List Bool)):(br T m).map Cell.av=m.map Nt:=by unfold br;rw[acu];rfl
variable{s:List Int}
section
variable {a x:Nat→Nat→Bool}{N i k j l:Nat}
def ED (a x:Nat→Nat→Bool)(i k l:Nat):Bool:=a i l||(decide (l<k)&&x i l)
def Ny (a x:Nat→Nat→Bool)(i k l:Nat):Bool:=a k l||(decide (k<i)&&x k l)
theorem Km:ED a x i 0 l=a i l:=by unfold ED;simp
theorem Qv (h:l<N):ED a x i N l=(a i l||x i l):=by unfold ED;rw[decide_eq_true h];simp
theorem EE:ED a x i (k+1) l=if l=k then(ED a x i k k||x i k) else ED a x i k l:=by
 unfold ED;by_cases h:l=k
 ·subst h;rw[if_pos rfl,decide_eq_true (show l<l+1 by omega),decide_eq_false (show ¬l<l by omega)];simp
 ·rw[if_neg h,show decide (l<k+1)=decide (l<k) from decide_eq_decide.2 adh]
theorem Kn:Ny a x 0 k l=a k l:=by unfold Ny;simp
theorem Qw (h:k<N):Ny a x N k l=(a k l||x k l):=by unfold Ny;rw[decide_eq_true h];simp
theorem Nz:Ny a x i i l=a i l:=by unfold Ny;simp
theorem NA:Ny a x (i+1) k l=if k=i then(a i l||x i l) else Ny a x i k l:=by
 unfold Ny;by_cases h:k=i
 ·subst h;rw[if_pos rfl,decide_eq_true (show k<k+1 by omega)];simp
 ·rw[if_neg h,show decide (k<i+1)=decide (k<i) from decide_eq_decide.2 adh]
def zw (x:Nat→Nat→Bool)(i k j l:Nat):Bool:=qb x i k l||(decide (k≤l)&&decide (l<j)&&qb x i k k&&x k l)
def NB (N:Nat)(x:Nat→Nat→Bool)(i k l:Nat):Bool:=if k<i then qb x k N l else decide (l=k)
theorem Sr:∀ {k:Nat},k≤i→qb x i k l=decide (l=i)
 | 0,_=>rfl
 | k+1,h=>by rw[qb,Sr adh,decide_eq_false (show ¬i≤k by omega)];simp
theorem Ko:zw x i k k l=qb x i k l:=by
 unfold zw;by_cases h:k≤l
 ·rw[decide_eq_false (show ¬l<k by omega)];simp
 ·rw[decide_eq_false h];simp
theorem NC:zw x i k j k=qb x i k k:=by unfold zw;cases qb x i k k<;>simp
theorem Qx (hi:i≤k)(h:l<j∨qb x i k k=false):zw x i k j l=qb x i (k+1) l:=by
 unfold zw;rw[qb,decide_eq_true hi];rcases h with h|h
 ·rw[decide_eq_true h];simp
 ·rw[h];simp
theorem EF (hk:k≤j)(ha:qb x i k k=true):zw x i k (j+1) l=if l=j then(zw x i k j j||x k j) else zw x i k j l:=by
 by_cases h:l=j
 ·subst h;rw[if_pos rfl];unfold zw;rw[decide_eq_true hk,decide_eq_true (show l<l+1 by omega),decide_eq_false (show ¬l<l by omega),ha];simp
 ·rw[if_neg h];unfold zw;rw[show decide (l<j+1)=decide (l<j) from decide_eq_decide.2 adh]
theorem Kp:NB N x 0 k l=Ez true k l:=by unfold NB Ez;simp
theorem ND:NB N x i i l=decide (l=i):=by unfold NB;rw[if_neg (Nat.lt_irrefl i)]
theorem Qy (h:k<N):NB N x N k l=qb x k N l:=by unfold NB;rw[if_pos h]
theorem NF:NB N x (i+1) k l=if k=i then qb x i N l else NB N x i k l:=by
 unfold NB;by_cases h:k=i
 ·subst h;rw[if_pos adh,if_pos rfl]
 ·rw[if_neg h];by_cases q:k<i
  ·rw[if_pos q,if_pos adh]
  ·rw[if_neg q,if_neg adh]
def EG (w s:List Int)(i k l:Nat):Bool:=decide (l=i+1)&&decide (w.getD i default∈s.take k)
def Lz (w s:List Int)(i k l:Nat):Bool:=decide (k<i)&&Sq w s k l
theorem Kq {w:List Int}:EG w s i 0 l=false:=by unfold EG;simp
theorem Qz {w:List Int}(h:s.length≤k):EG w s i k l=Sq w s i l:=by unfold EG Sq;rw[aa2 h]
theorem EH {w:List Int}(h:k<s.length):EG w s i (k+1) l=if l=i+1 then(EG w s i k (i+1)||decide (s.getD k default=w.getD i default)) else EG w s i k l:=by
 unfold EG;by_cases q:l=i+1
 ·subst q;rw[if_pos rfl,decide_eq_true rfl,abS,abS,List.take_add_one,aaF h,aax (l:=s),aaF h];refine acq.2 ?_;simp only[Option.toList_some,abl,aaY,decide_eq_true_eq,abC,acI];exact or_congr_right eq_comm
 ·rw[if_neg q,decide_eq_false q];rfl
theorem Kr {w:List Int}:Lz w s 0 k l=Ez false k l:=by unfold Lz Ez;simp
theorem NG {w:List Int}:Lz w s i i l=false:=by unfold Lz;simp
theorem QA {w:List Int}(h:k<i):Lz w s i k l=Sq w s k l:=by unfold Lz;rw[decide_eq_true h];rfl
theorem NH {w:List Int}:Lz w s (i+1) k l=if k=i then Sq w s i l else Lz w s i k l:=by
 unfold Lz;by_cases h:k=i
 ·subst h;rw[if_pos rfl,decide_eq_true (show k<k+1 by omega)];rfl
 ·rw[if_neg h,show decide (k<i+1)=decide (k<i) from decide_eq_decide.2 adh]
end
theorem qW {r:Rx}(h:aT r=true):(0≤r.kind∧r.kind≤5)∧(r.kind=5→r.kids.length=1)∧(r.kind=0∨r.kind=1∨r.kind=2→r.kids.length=0):=by
 have hk:0≤r.kind∧r.kind≤5:=by
  by_cases q:r.kind<0∨5<r.kind
  ·rw[ux q] at h;cases h
  ·omega
 refine⟨hk,fun q=>?_,fun q=>?_⟩
 ·rw[ja q] at h;simp only[aaZ,decide_eq_true_eq] at h;exact h.2.1
 ·rcases q with q|q|q
  ·rw[jG (.inl q)] at h;simp only[aaZ,decide_eq_true_eq] at h;exact h.2
  ·rw[jG (.inr q)] at h;simp only[aaZ,decide_eq_true_eq] at h;exact h.2
  ·rw[mh q] at h;simp only[aaZ,decide_eq_true_eq] at h;exact h.1
theorem G3 {r:Rx}(h:aT r=true){m:Nat}(hm:m<r.kids.length):aT (r.kids.getD m default)=true:=by
 obtain⟨h1,h2,h3⟩:=qW h;rcases(by omega:(r.kind=0∨r.kind=1∨r.kind=2)∨(r.kind=3∨r.kind=4)∨r.kind=5) with q|q|q
 ·have:=h3 q;omega
 ·rw[lV q] at h;simp only[aaZ,abw,ab6,Bool.not_eq_true,Bool.not_eq_false'] at h;have:=h.2 _ (aS hm);simpa using this
 ·have:=h2 q;have e:m=0:=adh;subst e;rw[ja q] at h;simp only[aaZ,decide_eq_true_eq] at h;exact h.2.2
section
variable {w:List Int}{r:Rx}{i m:Nat}
abbrev qF (r:Rx):Bool:=decide (r.kind=1)||(decide (r.kind=3)||decide (r.kind=5))
theorem YT (h:r.kind=1):qF r=true:=by simp[qF,h]
theorem YU (h:r.kind=3):qF r=true:=by simp[qF,h]
theorem YV (h:r.kind≠1)(h3:r.kind≠3):qF r=decide (r.kind=5):=by simp[qF,h,h3]
noncomputable def f0 (w:List Int)(r:Rx)(i:Nat):Nat→Nat→Bool:=if r.kind=2 then Lz w r.syms i else Ez (qF r)
theorem NI:cd (w.length+1) (Ez (qF r))=cd (w.length+1) (f0 w r 0):=jc fun k l _ _=>by
 unfold f0;by_cases h:r.kind=2
 ·rw[if_pos h,Kr,show qF r=false from by simp[qF,h]]
 ·rw[if_neg h]
theorem Ct (h:r.kind=2):f0 w r i=Lz w r.syms i:=if_pos h
theorem TT (hk:0≤r.kind∧r.kind≤5)(h:r.kind≠2→i=0)(hx:r.kind=2→i=w.length):cd (w.length+1) (f0 w r i)=cd (w.length+1) (KF w r 0):=jc fun k l hkk hl=>by
 by_cases q:r.kind=2
 ·rw[Ct q,hx q,←YR q hkk hl];by_cases e:k<w.length
  ·exact QA e
  ·unfold Lz Sq;rw[decide_eq_false e,decide_eq_false (show ¬l=k+1 by omega)];rfl
 ·unfold f0;rw[if_neg q];exact VP adh hl
noncomputable def f1 (w:List Int)(r:Rx)(m:Nat):Nat→Nat→Bool:=if r.kind=3 then KF w r (m+1) else KF w r m
noncomputable def f2 (w:List Int)(r:Rx)(m:Nat):Nat→Nat→Bool:=if r.kind=3∨r.kind=4 then KF w r (m+1) else KF w r m
noncomputable abbrev eL (w:List Int)(r:Rx)(m:Nat):Nat→Nat→Bool:=rj w (r.kids.getD m default)
noncomputable def a4 (w:List Int)(r:Rx)(m i:Nat):Nat→Nat→Bool:=if r.kind=4 then Ny (KF w r m) (eL w r m) i else f1 w r m
noncomputable def a6 (w:List Int)(r:Rx)(m i:Nat):Nat→Nat→Bool:=if r.kind=5 then NB (w.length+1) (eL w r m) i else f2 w r m
theorem YW (h:r.kind=3)(hm:m<r.kids.length):cd (w.length+1) (Vg (w.length+1) (KF w r m) (eL w r m))=cd (w.length+1) (f1 w r m):=jc fun k l _ hl=>by unfold f1;rw[if_pos h];exact YP h hm hl
theorem VQ (h:r.kind≠3):f1 w r m=KF w r m:=if_neg h
theorem NJ:cd (w.length+1) (f1 w r m)=cd (w.length+1) (a4 w r m 0):=jc fun k l _ _=>by
 unfold a4;by_cases h:r.kind=4
 ·rw[if_pos h,Kn,VQ adh]
 ·rw[if_neg h]
theorem wX (h:r.kind=4):a4 w r m i=Ny (KF w r m) (eL w r m) i:=if_pos h
theorem TU (hm:m<r.kids.length)(h:r.kind≠4→i=0)(hx:r.kind=4→i=w.length+1):cd (w.length+1) (a4 w r m i)=cd (w.length+1) (f2 w r m):=jc fun k l hk _=>by
 by_cases q:r.kind=4
 ·rw[wX q,hx q,Qw hk];unfold f2;rw[if_pos (.inr q)];exact YQ q hm
 ·unfold a4 f1 f2;rw[if_neg q];by_cases q3:r.kind=3
  ·rw[if_pos q3,if_pos (.inl q3)]
  ·rw[if_neg q3,if_neg adh]
theorem NK (h5:r.kind=5→r.kids.length=1)(hm:m<r.kids.length):cd (w.length+1) (f2 w r m)=cd (w.length+1) (a6 w r m 0):=jc fun k l _ hl=>by
 unfold a6;by_cases h:r.kind=5
 ·have:=h5 h;have e:m=0:=adh;subst e;rw[if_pos h,Kp];unfold f2;rw[if_neg adh,←VP adh hl]
  congr 1
  simp[h]
 ·rw[if_neg h]
theorem wY (h:r.kind=5):a6 w r m i=NB (w.length+1) (eL w r m) i:=if_pos h
theorem TV (hv : aT r = true)(hm : m < r.kids.length)(h : r.kind ≠ 5 → i = 0)(hx : r.kind = 5 → i = w.length + 1) : cd (w.length + 1) (a6 w r m i) = cd (w.length + 1) (KF w r (m + 1)) := jc fun k l hk hl => by
 obtain⟨h1,h2,h3⟩:=qW hv;by_cases q:r.kind=5
 · have := h2 q
   have e:m=0:=adh;subst e;rw[wY q,hx q,Qy hk];exact YS q hl
 · unfold a6 f2
   rw [if_neg q, if_pos (by have : ¬ (r.kind = 0 ∨ r.kind = 1 ∨ r.kind = 2) := fun h => by have := h3 h; omega
                            omega)]
theorem TW (hv:aT r=true):cd (w.length+1) (KF w r r.kids.length)=cd (w.length+1) (rj w r):=jc fun k l _ _=>by obtain⟨h1,h2,h3⟩:=qW hv;exact TS h1 h2
end
end Go.We
namespace Go.Wc
def order:List Int→List Int→Int
 | [],[]=>0
 | [],_ :: _=>-1
 | _ :: _,[]=>1
 | x :: xs,y :: ys=>if x<y then -1 else if y<x then 1 else order xs ys
open Go.Am
def Ss (n:Int):Prop:=-9223372036854775808≤n∧n≤9223372036854775807
def iK (l:List Int):Prop:=∀x∈l,Ss x
variable{l:List Int}
theorem iK.get (h:iK l)(k:Nat):Ss (l.getD k default):=by
 rw[aax];cases hk:l[k]? with
 | none=>exact⟨by decide,by decide⟩
 | some x=>exact h x (abm hk)
theorem iK.take (h:iK l)(k:Nat):iK (l.take k):=fun x hx=>h x (abO hx)
theorem take_succ {α:Type} [Inhabited α]{l:List α}{k:Nat}(h:k<l.length):l.take (k+1)=l.take k++[l.getD k default]:=by rw[List.take_succ_eq_append_getElem h,aax,aaF h];rfl
def bw (n most:Int):Int:=(if n<0 then -(n+1) else n) % most
theorem gO {n most:Int}(h:0<most):0≤bw n most∧bw n most<most:=⟨Int.emod_nonneg _ adh,ac8 _ h⟩
def nw (l:List Int)(i most:Int):Int:=if i<0∨(l.length:Int)≤i then 0 else bw (l.getD i.toNat default) most
theorem lx {i most:Int}(h:0<most):0≤nw l i most∧nw l i most<most:=by
 unfold nw;split
 ·omega
 ·exact gO h
structure cP where
 text:List UInt8
 base:Int
 mark:Int
 cap:Int
 width:Int
 deriving Inhabited,DecidableEq
def G4 (x:cP):AV:=.agg [ak x.text,int x.base,int x.mark,int x.cap,int x.width]
abbrev af (a:List cP):AV:=.sl (a.map G4)
def isL (a:List cP)(x:Int):Bool:=decide (0≤x)&&decide (x<a.length)
def lets (a:List cP)(w:List Int):List Int:=w.filter (isL a)
end Go.Wc
namespace Go.Proofs
open Go.Shelf
def Tryz.Ks:Go.Shelf.Ren:=⟨fun|6=>251|15=>87|14=>258|28=>131|29=>132|20=>269|21=>270|22=>271|23=>272|24=>273|25=>274|26=>275|27=>276|46=>280|47=>189|48=>190|49=>281|50=>282|57=>284|n=>n,fun|22=>85|24=>87|25=>271|3=>3|39=>154|0=>0|53=>216|55=>218|4=>4|46=>209|45=>208|50=>213|5=>5|9=>9|66=>265|70=>269|76=>294|77=>295|n=>n,fun|n=>n⟩
theorem Tryz.jX:Go.Proofs.SlLaysF0.n6 Tryz.prog Tryz.Ks:={
 mixed:=adi
 f6:=⟨Tryz.f251.name,by decide,Tryz.func251.trans (congrArg some adi)⟩
 f14:=⟨Tryz.f258.name,by decide,Tryz.func258.trans (congrArg some adi)⟩
 f15:=Tryz.func87.trans (congrArg some adi)
 f20:=⟨Tryz.f269.name,by decide,Tryz.func269.trans (congrArg some adi)⟩
 f21:=⟨Tryz.f270.name,by decide,Tryz.func270.trans (congrArg some adi)⟩
 f22:=⟨Tryz.f271.name,by decide,Tryz.func271.trans (congrArg some adi)⟩
 f23:=⟨Tryz.f272.name,by decide,Tryz.func272.trans (congrArg some adi)⟩
 f24:=⟨Tryz.f273.name,by decide,Tryz.func273.trans (congrArg some adi)⟩
 f25:=⟨Tryz.f274.name,by decide,Tryz.func274.trans (congrArg some adi)⟩
 f26:=⟨Tryz.f275.name,by decide,Tryz.func275.trans (congrArg some adi)⟩
 f27:=⟨Tryz.f276.name,by decide,Tryz.func276.trans (congrArg some adi)⟩
 f28:=Tryz.func131.trans (congrArg some adi)
 f29:=Tryz.func132.trans (congrArg some adi)
 f46:=⟨Tryz.f280.name,by decide,Tryz.func280.trans (congrArg some adi)⟩
 f47:=Tryz.func189.trans (congrArg some adi)
 f48:=Tryz.func190.trans (congrArg some adi)
 f49:=⟨Tryz.f281.name,by decide,Tryz.func281.trans (congrArg some adi)⟩
 f50:=⟨Tryz.f282.name,by decide,Tryz.func282.trans (congrArg some adi)⟩
 f57:=⟨Tryz.f284.name,by decide,Tryz.func284.trans (congrArg some adi)⟩
 t0:=Tryz.underlying0
 a0:=Tryz.isAgg0
 z0:=Tryz.sizeOf0
 v0:=Tryz.zeroValue0
 t3:=Tryz.underlying3
 a3:=Tryz.isAgg3
 z3:=Tryz.sizeOf3
 v3:=Tryz.zeroValue3
 t4:=Tryz.underlying4
 a4:=Tryz.isAgg4
 z4:=Tryz.sizeOf4
 v4:=Tryz.zeroValue4
 t5:=Tryz.underlying5
 a5:=Tryz.isAgg5
 z5:=Tryz.sizeOf5
 v5:=Tryz.zeroValue5
 t9:=Tryz.underlying9
 a9:=Tryz.isAgg9
 z9:=Tryz.sizeOf9
 v9:=Tryz.zeroValue9
 t22:=Tryz.underlying85
 a22:=Tryz.isAgg85
 z22:=Tryz.sizeOf85
 v22:=Tryz.zeroValue85
 t25:=Tryz.underlying271
 a25:=Tryz.isAgg271
 z25:=Tryz.sizeOf271
 v25:=Tryz.zeroValue271
 t39:=Tryz.underlying154
 a39:=Tryz.isAgg154
 z39:=Tryz.sizeOf154
 v39:=Tryz.zeroValue154
 t45:=Tryz.underlying208
 a45:=Tryz.isAgg208
 z45:=Tryz.sizeOf208
 v45:=Tryz.zeroValue208
 t46:=Tryz.underlying209
 a46:=Tryz.isAgg209
 z46:=Tryz.sizeOf209
 v46:=Tryz.zeroValue209
 t50:=Tryz.underlying213
 a50:=Tryz.isAgg213
 z50:=Tryz.sizeOf213
 v50:=Tryz.zeroValue213
 t53:=Tryz.underlying216
 a53:=Tryz.isAgg216
 z53:=Tryz.sizeOf216
 v53:=Tryz.zeroValue216
 t55:=Tryz.underlying218
 a55:=Tryz.isAgg218
 z55:=Tryz.sizeOf218
 v55:=Tryz.zeroValue218
 t66:=Tryz.underlying265
 a66:=Tryz.isAgg265
 z66:=Tryz.sizeOf265
 v66:=Tryz.zeroValue265
 t70:=Tryz.underlying269
 a70:=Tryz.isAgg269
 z70:=Tryz.sizeOf269
 v70:=Tryz.zeroValue269
 t76:=Tryz.underlying294
 a76:=Tryz.isAgg294
 z76:=Tryz.sizeOf294
 v76:=Tryz.zeroValue294
 t77:=Tryz.underlying295
 a77:=Tryz.isAgg295
 z77:=Tryz.sizeOf295
 v77:=Tryz.zeroValue295 }
def Tryz.Kt:Go.Shelf.Ren:=⟨fun|5=>250|8=>87|7=>257|19=>131|20=>132|10=>261|11=>262|12=>263|13=>264|14=>265|15=>266|16=>255|17=>267|18=>268|30=>277|31=>189|32=>190|33=>278|34=>279|35=>133|40=>283|n=>n,fun|23=>22|25=>3|3=>3|32=>154|22=>22|0=>0|44=>216|46=>218|4=>4|36=>209|35=>208|41=>213|5=>5|9=>9|53=>265|57=>269|63=>294|64=>295|n=>n,fun|n=>n⟩
theorem Tryz.Su:Go.Proofs.SlLaysM.n5 Tryz.prog Tryz.Kt:={
 mixed:=adi
 f5:=⟨Tryz.f250.name,by decide,Tryz.func250.trans (congrArg some adi)⟩
 f7:=⟨Tryz.f257.name,by decide,Tryz.func257.trans (congrArg some adi)⟩
 f8:=Tryz.func87.trans (congrArg some adi)
 f10:=⟨Tryz.f261.name,by decide,Tryz.func261.trans (congrArg some adi)⟩
 f11:=⟨Tryz.f262.name,by decide,Tryz.func262.trans (congrArg some adi)⟩
 f12:=⟨Tryz.f263.name,by decide,Tryz.func263.trans (congrArg some adi)⟩
 f13:=⟨Tryz.f264.name,by decide,Tryz.func264.trans (congrArg some adi)⟩
 f14:=⟨Tryz.f265.name,by decide,Tryz.func265.trans (congrArg some adi)⟩
 f15:=⟨Tryz.f266.name,by decide,Tryz.func266.trans (congrArg some adi)⟩
 f16:=⟨Tryz.f255.name,by decide,Tryz.func255.trans (congrArg some adi)⟩
 f17:=⟨Tryz.f267.name,by decide,Tryz.func267.trans (congrArg some adi)⟩
 f18:=⟨Tryz.f268.name,by decide,Tryz.func268.trans (congrArg some adi)⟩
 f19:=Tryz.func131.trans (congrArg some adi)
 f20:=Tryz.func132.trans (congrArg some adi)
 f30:=⟨Tryz.f277.name,by decide,Tryz.func277.trans (congrArg some adi)⟩
 f31:=Tryz.func189.trans (congrArg some adi)
 f32:=Tryz.func190.trans (congrArg some adi)
 f33:=⟨Tryz.f278.name,by decide,Tryz.func278.trans (congrArg some adi)⟩
 f34:=⟨Tryz.f279.name,by decide,Tryz.func279.trans (congrArg some adi)⟩
 f35:=⟨Tryz.f133.name,by decide,Tryz.func133.trans (congrArg some adi)⟩
 f40:=⟨Tryz.f283.name,by decide,Tryz.func283.trans (congrArg some adi)⟩
 t0:=Tryz.underlying0
 a0:=Tryz.isAgg0
 z0:=Tryz.sizeOf0
 v0:=Tryz.zeroValue0
 t3:=Tryz.underlying3
 a3:=Tryz.isAgg3
 z3:=Tryz.sizeOf3
 v3:=Tryz.zeroValue3
 t4:=Tryz.underlying4
 a4:=Tryz.isAgg4
 z4:=Tryz.sizeOf4
 v4:=Tryz.zeroValue4
 t5:=Tryz.underlying5
 a5:=Tryz.isAgg5
 z5:=Tryz.sizeOf5
 v5:=Tryz.zeroValue5
 t9:=Tryz.underlying9
 a9:=Tryz.isAgg9
 z9:=Tryz.sizeOf9
 v9:=Tryz.zeroValue9
 t22:=Tryz.underlying22
 a22:=Tryz.isAgg22
 z22:=Tryz.sizeOf22
 v22:=Tryz.zeroValue22
 t23:=Tryz.underlying22
 a23:=Tryz.isAgg22
 z23:=Tryz.sizeOf22
 v23:=Tryz.zeroValue22
 t25:=Tryz.underlying3
 a25:=Tryz.isAgg3
 z25:=Tryz.sizeOf3
 v25:=Tryz.zeroValue3
 t32:=Tryz.underlying154
 a32:=Tryz.isAgg154
 z32:=Tryz.sizeOf154
 v32:=Tryz.zeroValue154
 t35:=Tryz.underlying208
 a35:=Tryz.isAgg208
 z35:=Tryz.sizeOf208
 v35:=Tryz.zeroValue208
 t36:=Tryz.underlying209
 a36:=Tryz.isAgg209
 z36:=Tryz.sizeOf209
 v36:=Tryz.zeroValue209
 t41:=Tryz.underlying213
 a41:=Tryz.isAgg213
 z41:=Tryz.sizeOf213
 v41:=Tryz.zeroValue213
 t44:=Tryz.underlying216
 a44:=Tryz.isAgg216
 z44:=Tryz.sizeOf216
 v44:=Tryz.zeroValue216
 t46:=Tryz.underlying218
 a46:=Tryz.isAgg218
 z46:=Tryz.sizeOf218
 v46:=Tryz.zeroValue218
 t53:=Tryz.underlying265
 a53:=Tryz.isAgg265
 z53:=Tryz.sizeOf265
 v53:=Tryz.zeroValue265
 t57:=Tryz.underlying269
 a57:=Tryz.isAgg269
 z57:=Tryz.sizeOf269
 v57:=Tryz.zeroValue269
 t63:=Tryz.underlying294
 a63:=Tryz.isAgg294
 z63:=Tryz.sizeOf294
 v63:=Tryz.zeroValue294
 t64:=Tryz.underlying295
 a64:=Tryz.isAgg295
 z64:=Tryz.sizeOf295
 v64:=Tryz.zeroValue295 }
def Tryz.NL:Go.Shelf.Ren:=⟨fun|35=>233|n=>n,fun|22=>85|23=>87|3=>3|4=>4|0=>0|n=>n,fun|n=>n⟩
theorem Tryz.eB:Go.Proofs.SlLaysE0.n35 Tryz.prog Tryz.NL:={
 mixed:=adi
 f35:=⟨Tryz.f233.name,by decide,Tryz.func233.trans (congrArg some adi)⟩
 t0:=Tryz.underlying0
 a0:=Tryz.isAgg0
 z0:=Tryz.sizeOf0
 v0:=Tryz.zeroValue0
 t3:=Tryz.underlying3
 a3:=Tryz.isAgg3
 z3:=Tryz.sizeOf3
 v3:=Tryz.zeroValue3
 t4:=Tryz.underlying4
 a4:=Tryz.isAgg4
 z4:=Tryz.sizeOf4
 v4:=Tryz.zeroValue4
 t22:=Tryz.underlying85
 a22:=Tryz.isAgg85
 z22:=Tryz.sizeOf85
 v22:=Tryz.zeroValue85 }
def Tryz.Ku:Go.Shelf.Ren:=⟨fun|6=>56|15=>87|14=>86|28=>131|29=>132|20=>123|21=>124|22=>125|23=>126|24=>127|25=>128|26=>129|27=>130|46=>188|47=>189|48=>190|49=>191|50=>192|57=>230|n=>n,fun|22=>52|24=>22|25=>116|3=>3|39=>154|0=>0|53=>216|55=>218|4=>4|46=>209|45=>208|50=>213|5=>5|9=>9|66=>265|70=>269|76=>294|77=>295|n=>n,fun|n=>n⟩
theorem Tryz.vK:Go.Proofs.SlLaysF.n6 Tryz.prog Tryz.Ku:={
 mixed:=adi
 f6:=⟨Tryz.f56.name,by decide,Tryz.func56.trans (congrArg some adi)⟩
 f14:=⟨Tryz.f86.name,by decide,Tryz.func86.trans (congrArg some adi)⟩
 f15:=Tryz.func87.trans (congrArg some adi)
 f20:=⟨Tryz.f123.name,by decide,Tryz.func123.trans (congrArg some adi)⟩
 f21:=⟨Tryz.f124.name,by decide,Tryz.func124.trans (congrArg some adi)⟩
 f22:=⟨Tryz.f125.name,by decide,Tryz.func125.trans (congrArg some adi)⟩
 f23:=⟨Tryz.f126.name,by decide,Tryz.func126.trans (congrArg some adi)⟩
 f24:=⟨Tryz.f127.name,by decide,Tryz.func127.trans (congrArg some adi)⟩
 f25:=⟨Tryz.f128.name,by decide,Tryz.func128.trans (congrArg some adi)⟩
 f26:=⟨Tryz.f129.name,by decide,Tryz.func129.trans (congrArg some adi)⟩
 f27:=⟨Tryz.f130.name,by decide,Tryz.func130.trans (congrArg some adi)⟩
 f28:=Tryz.func131.trans (congrArg some adi)
 f29:=Tryz.func132.trans (congrArg some adi)
 f46:=⟨Tryz.f188.name,by decide,Tryz.func188.trans (congrArg some adi)⟩
 f47:=Tryz.func189.trans (congrArg some adi)
 f48:=Tryz.func190.trans (congrArg some adi)
 f49:=⟨Tryz.f191.name,by decide,Tryz.func191.trans (congrArg some adi)⟩
 f50:=⟨Tryz.f192.name,by decide,Tryz.func192.trans (congrArg some adi)⟩
 f57:=⟨Tryz.f230.name,by decide,Tryz.func230.trans (congrArg some adi)⟩
 t0:=Tryz.underlying0
 a0:=Tryz.isAgg0
 z0:=Tryz.sizeOf0
 v0:=Tryz.zeroValue0
 t3:=Tryz.underlying3
 a3:=Tryz.isAgg3
 z3:=Tryz.sizeOf3
 v3:=Tryz.zeroValue3
 t4:=Tryz.underlying4
 a4:=Tryz.isAgg4
 z4:=Tryz.sizeOf4
 v4:=Tryz.zeroValue4
 t5:=Tryz.underlying5
 a5:=Tryz.isAgg5
 z5:=Tryz.sizeOf5
 v5:=Tryz.zeroValue5
 t9:=Tryz.underlying9
 a9:=Tryz.isAgg9
 z9:=Tryz.sizeOf9
 v9:=Tryz.zeroValue9
 t22:=Tryz.underlying52
 a22:=Tryz.isAgg52
 z22:=Tryz.sizeOf52
 v22:=Tryz.zeroValue52
 a24:=Tryz.isAgg22
 z24:=Tryz.sizeOf22
 t25:=Tryz.underlying116
 a25:=Tryz.isAgg116
 z25:=Tryz.sizeOf116
 v25:=Tryz.zeroValue116
 t39:=Tryz.underlying154
 a39:=Tryz.isAgg154
 z39:=Tryz.sizeOf154
 v39:=Tryz.zeroValue154
 t45:=Tryz.underlying208
 a45:=Tryz.isAgg208
 z45:=Tryz.sizeOf208
 v45:=Tryz.zeroValue208
 t46:=Tryz.underlying209
 a46:=Tryz.isAgg209
 z46:=Tryz.sizeOf209
 v46:=Tryz.zeroValue209
 t50:=Tryz.underlying213
 a50:=Tryz.isAgg213
 z50:=Tryz.sizeOf213
 v50:=Tryz.zeroValue213
 t53:=Tryz.underlying216
 a53:=Tryz.isAgg216
 z53:=Tryz.sizeOf216
 v53:=Tryz.zeroValue216
 t55:=Tryz.underlying218
 a55:=Tryz.isAgg218
 z55:=Tryz.sizeOf218
 v55:=Tryz.zeroValue218
 t66:=Tryz.underlying265
 a66:=Tryz.isAgg265
 z66:=Tryz.sizeOf265
 v66:=Tryz.zeroValue265
 t70:=Tryz.underlying269
 a70:=Tryz.isAgg269
 z70:=Tryz.sizeOf269
 v70:=Tryz.zeroValue269
 t76:=Tryz.underlying294
 a76:=Tryz.isAgg294
 z76:=Tryz.sizeOf294
 v76:=Tryz.zeroValue294
 t77:=Tryz.underlying295
 a77:=Tryz.isAgg295
 z77:=Tryz.sizeOf295
 v77:=Tryz.zeroValue295 }
end Go.Proofs
namespace Go.Am
open Go.RowKit Go.Sort Go.Proofs
structure NM (P:Program)(f:FuncId)(k:Nat):Prop where
 bu:cq P f
 none:∀(p:Option Addr)(cap:Nat)(fv:Value)(w:World),Calls P f #[.slice p 0 cap,fv] w fun e w'=>e=.returned (.tuple #[])∧w'=w
 some:∀{α:Type} [Inhabited α](enc:α→List Value)(hk:∀x,(enc x).length=k)(h1:∀x,∀v∈enc x,v.oneCell'=true)(cf:α→α→Int)(hO:SWO (ltOf cf))(g:Nat)(cb:Array Value)(blk off cap:Nat)(d:Array α)(w:World)
  (eg:∀args w,(callFunc g args).run P w=.ok (.enter g args) w)(hcmp:CmpLays P g cb enc k cf blk off d.size w)(hH:HoldsK enc k w blk off d)(hblk:blk<w.heap.size)(hsz:d.size<4611686018427387904),
  Calls P f #[.slice (.some ⟨blk,off,.none⟩) d.size cap,.func (.func g) #[] cb] w fun e w' =>
   e=.returned (.tuple #[])∧∃d' n os,PermIn 0 d.size d d'∧SortedIn (ltOf cf) 0 d.size d'∧w'=sortWorldK enc k w blk off n d' os
variable{β:Type}
theorem A1  {p:β→Prop} {cf:β→β→Int} (hirr:∀ a,p a→¬ cf a a<0) (htr:∀ a b c,p a→p b→p c→cf a b<0→cf b c<0→cf a c<0)
   (htot:∀a b,p a→p b→¬cf a b<0→¬cf b a<0→a=b){l l':List β}(hp:∀z∈l,p z)(hperm:l'.Perm l)(hs:l'.Pairwise fun x y=>¬cf y x<0):l'=l.mergeSort fun x y=>!decide (cf y x<0):=by
 have hp':∀z∈l',p z:=fun z hz=>hp z (hperm.mem_iff.1 hz)
 have hm:=List.mergeSort_perm l (fun x y=>!decide (cf y x<0));have hpm:∀z∈l.mergeSort (fun x y=>!decide (cf y x<0)),p z:=fun z hz=>hp z (hm.mem_iff.1 hz)
 -- the sorted one
 have hsm:(l.mergeSort fun x y=>!decide (cf y x<0)).Pairwise fun x y=>¬cf y x<0:=by
   let d:List {z // p z}:=l.attach.map fun z=>⟨z.1,hp z.1 z.2⟩
   have hdl:d.map (·.1)=l:=by simp[d,acu,ac9]
   have h1:=List.pairwise_mergeSort (le:=fun(x y:{z // p z})=>!decide (cf y.1 x.1<0)) (fun a b c h h'=>by
     simp only[abw,decide_eq_false_iff_not] at h h' ⊢;intro hca;by_cases hab:cf a.1 b.1<0
     · exact h' (htr _ _ _ c.2 a.2 b.2 hca hab)
     · have := htot _ _ a.2 b.2 hab h
       rw[←this] at h';exact h' hca) (fun a b=>by
     by_cases hba:cf b.1 a.1<0
     · have : ¬ cf a.1 b.1 < 0 := fun h => hirr _ a.2 (htr _ _ _ a.2 b.2 a.2 h hba)
       simp[this]
     · simp[hba]) d
   have hms:(d.mergeSort fun x y=>!decide (cf y.1 x.1<0)).map (·.1)=l.mergeSort fun x y=>!decide (cf y x<0):=by
     rw[List.map_mergeSort (r:=fun(x y:{z // p z})=>!decide (cf y.1 x.1<0)) (s:=fun x y=>!decide (cf y x<0)) (fun a _ b _=>rfl),hdl]
   rw[←hms,acV];exact h1.imp fun h=>by simpa using h
 -- two sorted permutations
 have uniq : ∀ (a b : List β), (∀ z ∈ a, p z) → a.Perm b → a.Pairwise (fun x y => ¬ cf y x < 0) → b.Pairwise (fun x y => ¬ cf y x < 0) → a = b := by
   intro a
   induction a with
   | nil=>intro b _ h _ _;exact(List.nil_perm.1 h).symm
   | cons x a ih =>
     intro b ha h h1 h2;cases b with
     | nil=>exact absurd h.length_eq (by simp)
     | cons y b =>
       have hb:∀z∈y :: b,p z:=fun z hz=>ha z (h.mem_iff.2 hz)
       have hxy:x=y:=by
         rcases aa3.1 (h.mem_iff.1 aaJ) with q|q
         · exact q
         · rcases aa3.1 (h.mem_iff.2 aaJ) with q' | q'
           · exact q'.symm
           · exact htot x y (ha x aaJ) (hb y aaJ) ((abt.1 h2).1 x q) ((abt.1 h1).1 y q')
       subst hxy;rw[ih b (fun z hz=>ha z (aaW _ hz)) (List.Perm.cons_inv h) (abt.1 h1).2 (abt.1 h2).2]
 exact uniq l' _ hp' (hperm.trans hm.symm) hs hsm
section
variable {P:Program} {w0:Fr}{M0:Nat→Prop}
variable {o:Oper} {s:St}{x y:Operand}{T T' e:TypeId}{c:fX}{id t k:Nat}
theorem rF {α:Type}{l:List α}{a k j:Nat}(h:j<k):((l.drop a).take k)[j]?=l[a+j]?:=by rw[abo,if_pos h,ab3]
theorem yn  {cells:β→List AV} {cf:β→β→Int} {p:β→Prop} {l:List β} {f g:FuncId} {caps:List AV} {ats:Array TypeId} (hS:NM P f k) (ho:o.op=.call { callee:=.value (.func f),args:=#[x,y],argTypes:=ats }) (hd:o.dst=some t) (hn:Nat.blt t s.n=true)
   (hnd:Nodup s.s=true)(hx:s.ev x=some (.own id))(hl:s.o.lookup id=some (.arr e (l.map fun z=>.agg (cells z))))(hy:s.ev y=some (.v .pl (.clo g caps)))(hk:bX P e=some k)(hk0:0<k)(hp:∀z∈l,p z)
   (hc:∀a b:β,p a→p b→au P g ([.agg (cells a),.agg (cells b)]++caps) (.p (int (cf a b))))(hg:cq P g)(hirr:∀a,p a→¬cf a a<0)(htr:∀a b c,p a→p b→p c→cf a b<0→cf b c<0→cf a c<0)
   (htot:∀a b,p a→p b→¬cf a b<0→¬cf b a<0→a=b)(hsz:l.length<4611686018427387904)(ae:∀b,M0 b→b<w0.w.heap.size) :
   Step P w0 M0 o s ((s.cK false id (.arr e ((l.mergeSort fun x y=>!decide (cf y x<0)).map fun z=>.agg (cells z)))).put t (.v .pl (.tup []))):=by
 rintro a w Q ⟨E,hs⟩;have hxv:=hs.ev hx _ _ hl;have hyv:bL w (cI M0 (owned E s.o) .pl) (a.eval y) (.clo g caps):=hs.ev hy;have hob:=hs.wok.objs id _ hl;obtain⟨vals,⟨hown,hownF⟩,hcl,hrp⟩:=hob;have hck:=cQ hk;have hxl:(l.map fun z=>AV.agg (cells z)).length=l.length:=by simp
 have hvlen:vals.length=l.length*k:=by have:=hown.1;rw[hck] at this;simpa using this
 have hcells:∀z∈l,(cells z).length=k:=fun z hz=>by have:=hcl _ (acR hz);rw[hck] at this;exact this
 have hclk:∀x∈(l.map fun z=>AV.agg (cells z)),(AV.cells x).length=k:=fun x hx=>by rw[←hck];exact hcl x hx
 have hfl:∀(i j:Nat)(hi:i<l.length),j<k→(flat (l.map fun z=>AV.agg (cells z)))[i*k+j]?=(cells l[i])[j]?:=fun i j hi hj=>by
   rw[flat_get _ i (.agg (cells l[i])) hclk (by rw[aaI,aaF hi];rfl) j hj];rfl
 generalize hq:a.eval y=q at hyv;cases hyv with
 | clo _ cb _ hnc hr =>
   have hrun:(execOp a.eval o).run P w=.ok (.enter f #[E.cur id,.func (.func g) #[] cb.toArray]) w:=by
     have:=fG (P:=P) (ev:=a.eval) (w:=w) (caps:=#[]) ho rfl hS.bu;simpa[hxv,hq] using this
   unfold Oper.wp;rw[hrun];simp only[Oper.upon];rcases hown.2 with⟨hv,hn0⟩|⟨gb,cap,cur,hv,hgb,hh,hnc',hcm,hcs,htake⟩
   · -- nothing to sort
     have hl0:l=[]:=aa4 (by simpa using hn0);rw[hv];refine(hS.none none 0 _ w).mono fun e' w' ⟨he,hw⟩=>?_
     subst he;subst hw;simp only[hd];refine⟨E,ba.put ?_ (by simpa[St.cK] using hn) (bL.tup [] [] J (fun j d hd=>by simp at hd))⟩;refine hs.cK false (fun _=>⟨rfl,.inl ⟨e,_,_,hl,rfl,by simp⟩⟩) hnd ae (fun i hi=>⟨rfl,rfl⟩) (.inr J) none ⟨rfl,rfl,rfl,aaD _,fun _ _ _=>rfl⟩ (fun _=>aaD _) (fun g hg'=>by cases hg') (fun b hb=>.inl ⟨_,hl,hb⟩) (fun rep sv=>?_);subst hl0;simp only[acT,abW];refine⟨[],⟨⟨by simp,.inl ⟨hv,rfl⟩⟩,hownF⟩,fun x hx=>(by cases hx),fun j d hd=>(by simp[flat] at hd)⟩
   · rw [hxl] at hv hnc' htake
     rw[hck] at hcs;rw[hck] at htake;rcases abZ l.length with hl0|hpos
     · -- nothing to sort, with room behind
       have hl0:l=[]:=aa4 hl0;rw[hv,hl0];refine(hS.none _ cap _ w).mono fun e' w' ⟨he,hw⟩=>?_
       subst he;subst hw;simp only[hd];refine⟨E,ba.put ?_ (by simpa[St.cK] using hn) (bL.tup [] [] J (fun j d hd=>by simp at hd))⟩;refine hs.cK false (fun _=>⟨rfl,.inl ⟨e,_,_,hl,rfl,by simp[hl0]⟩⟩) hnd ae (fun i hi=>⟨rfl,rfl⟩) (.inr J) none ⟨rfl,rfl,rfl,aaD _,fun _ _ _=>rfl⟩ (fun _=>aaD _) (fun g hg'=>by cases hg') (fun b hb=>.inl ⟨_,hl,hb⟩) (fun rep sv=>?_);simp only[acT,abW];refine⟨[],⟨⟨by simp,.inr ⟨gb,cap,cur,by rw[hv,hl0];rfl,hgb,hh,aaG _,hcm,by rw[hck];exact hcs,by simp⟩⟩,hownF⟩,fun x hx=>(by cases hx),fun j d hd=>(by simp[flat] at hd)⟩
     · have hblk : gb < w.heap.size := (abn.1 hh).1
       have:Inhabited {i // i<l.length}:=⟨⟨0,hpos⟩⟩
       let d:List {i // i<l.length}:=(List.range l.length).attach.map fun z=>⟨z.1,aba.1 z.2⟩
       have hdl:d.map (·.1)=List.range l.length:=by simp[d,acu,ac9]
       have hdlen:d.length=l.length:=by simp[d]
       let enc':{i // i<l.length}→List Value:=fun z=>(vals.drop (z.1*k)).take k
       let cf':{i // i<l.length}→{i // i<l.length}→Int:=fun x y=>cf (l[x.1]'x.2) (l[y.1]'y.2)
       have hpl:∀x:{i // i<l.length},p (l[x.1]'x.2):=fun x=>hp _ (abV x.2)
       have hend:∀x:{i // i<l.length},x.1*k+k≤l.length*k:=fun x=>by
         have:=abR k (show x.1+1≤l.length from x.2);rwa [acL,Nat.one_mul] at this
       have hencl:∀x,(enc' x).length=k:=fun x=>by have:=hend x;simp only[enc',aaO,aaX];omega
       have hencg:∀x j,j<k→(enc' x)[j]?=vals[x.1*k+j]?:=fun x j hj=>rF hj
       have hencd:∀x j,j<k→(enc' x).getD j undef=vals.getD (x.1*k+j) undef:=fun x j hj=>by rw[aax,aax,hencg x j hj]
       have hrepx:∀(x:{i // i<l.length}) j d',(cells (l[x.1]'x.2))[j]?=some d'→j<k∧AV.leaf d'=true∧bL w (cI M0 (owned E s.o) .pl) ((enc' x).getD j undef) d':=fun x j d' hd'=>by
         have hj:j<k:=by rw[←hcells _ (abV x.2)];exact(aa0.1 hd').1
         have:=hrp (x.1*k+j) d' (by rw[hfl x.1 j x.2 hj];exact hd');exact⟨hj,this.1,by rw[hencd x j hj];exact this.2⟩
       have hone:∀x,∀v∈enc' x,v.oneCell'=true:=fun x v hv'=>by
         obtain⟨j,hj,rfl⟩:=abF hv';rw[hencl] at hj;obtain⟨q1,q2,q3⟩:=hrepx x j ((cells (l[x.1]'x.2))[j]'(by rw[hcells _ (abV x.2)];exact hj)) (aaF _);rw[aax,aaF (by rw[hencl];exact hj)] at q3;exact q3.one q2
       have hO:SWO (ltOf cf'):=by
         refine⟨fun x=>by simpa[ltOf,cf'] using hirr _ (hpl x),fun x y z h h'=>?_,fun x y z h h'=>?_⟩
         · simp only [ltOf, cf', decide_eq_true_eq] at h h' ⊢
           exact htr _ _ _ (hpl x) (hpl y) (hpl z) h h'
         · simp only [ltOf, cf', decide_eq_false_iff_not] at h h' ⊢
           intro hxz;by_cases hyx:cf (l[y.1]'y.2) (l[x.1]'x.2)<0
           · exact h' (htr _ _ _ (hpl y) (hpl x) (hpl z) hyx hxz)
           · have := htot _ _ (hpl x) (hpl y) h hyx
             rw[this] at hxz;exact h' hxz
       have hcurj:∀j (hj:j<l.length*k),cur[j]?=vals[j]?:=fun j hj=>by
         have:(cur.toList.take (l.length*k))[j]?=vals[j]?:=by rw[htake]
         rwa [abo,if_pos hj,abi] at this
       have hdj:∀j (hj:j<l.length),(d.toArray[j]!).1=j:=fun j hj=>by
         rw[getElem!_pos d.toArray j (by simpa[hdlen] using hj)];simp[d]
       have hfk:∀(dk:Array {i // i<l.length}),dk.size=l.length→∀u,u<l.length*k→some (flatK enc' k dk)[u]! = vals[(dk[u / k]!).1*k+u % k]?:=fun dk hdk u hu=>by
         rw[get_flatK enc' k dk u (by rw[hdk];exact hu)];have hm:u % k<k:=Nat.mod_lt _ hk0;have:=hencg (dk[u / k]!) (u % k) hm;rw[getElem!_pos _ _ (by rw[hencl];exact hm),←this,aaF]
       have hH:HoldsK enc' k w gb 0 d.toArray:=by
         intro j hj;have hj':j<l.length*k:=by simpa[hdlen] using hj
         have hdv:j / k<l.length:=Nat.div_lt_of_lt_mul (by rw[ac1];exact hj');refine⟨?_,?_⟩
         · simp only [World.cell?, hh, abL, _root_.id]
           rw[hfk d.toArray (by simp[hdlen]) j hj',hdj _ hdv];show cur[j]?=_;rw[hcurj j hj']
           congr 1
           rw[ac1,Nat.div_add_mod]
         · simp only [World.frozen?, hh]
           simp
       have hsw:∀n dk os,sortWorldK enc' k w gb 0 n dk os=sortWorld (α:=Value) _root_.id w gb 0 n (flatK enc' k dk) os:=fun _ _ _=>rfl
       have hcmp:CmpLays P g cb.toArray enc' k cf' gb 0 d.toArray.size w:=by
         intro m os dk hdk x y;rw[hsw];obtain⟨_,hcall⟩:=hc (l[x.1]'x.2) (l[y.1]'y.2) (hpl x) (hpl y);generalize hW:sortWorld (α:=Value) _root_.id w gb 0 m (flatK enc' k dk) os=W;have hsz2:w.heap.size≤W.heap.size:=by rw[←hW,fI];omega
         have hoth:∀b,b≠gb→b<w.heap.size→W.heap[b]?=w.heap[b]?:=fun b h1 h2=>by rw[←hW];exact eY _ _ _ _ _ _ h1 h2
         have hnob:∀b,¬cI M0 (owned E s.o) .pl b→b≠gb:=fun b hb he=>by
           subst he;exact hb (.inr ⟨id,_,hl,by simp only[bG,hv,Value.ownBlock]⟩)
         have hagg:∀x:{i // i<l.length},bL W (fun _=>False) (.agg (enc' x).toArray) (.agg (cells (l[x.1]'x.2))):=fun x=>by
           refine .agg _ _ (by rw[hencl,hcells _ (abV x.2)]) (fun j d' hd'=>(hrepx x j d' hd').2.1) (fun j d' hd'=>?_);exact(hrepx x j d' hd').2.2.mono hsz2 (fun b hb hnM=>hoth b (hnob b hnM) hb) (fun b _ _ hf=>hf)
         have hc2:=hcall W ([.agg (enc' x).toArray,.agg (enc' y).toArray]++cb) (by simp[hnc]) (fun j d' hd'=>?_)
         · have e1 : ([Value.agg (enc' x).toArray, .agg (enc' y).toArray] ++ cb).toArray = #[Value.agg (enc' x).toArray, .agg (enc' y).toArray] ++ cb.toArray := by apply acw; simp
           rw[e1] at hc2;refine hc2.mono fun e' w' ⟨v,he,hb,hrv⟩=>⟨?_,rz hb⟩
           have hrv':bL w' _ v (int (cf (l[x.1]'x.2) (l[y.1]'y.2))):=hrv;cases hrv';exact he
         · match j with
           | 0=>simp at hd';subst hd';exact hagg x
           | 1=>simp at hd';subst hd';exact hagg y
           | j + 2 =>
             have hd2:caps[j]?=some d':=by simpa using hd'
             have:=hr j d' hd2;have e2:([Value.agg (enc' x).toArray,.agg (enc' y).toArray]++cb).getD (j+2) undef=cb.getD j undef:=by simp[aax]
             rw[e2];exact this.mono hsz2 (fun b hb hnM=>hoth b (hnob b hnM) hb) (fun b _ _ hf=>hf)
       have eg:∀args w,(callFunc g args).run P w=.ok (.enter g args) w:=by
         obtain⟨fn,g1,g2,g3⟩:=hg;have g3':fn.body≠none:=by intro hn;rw[hn] at g3;cases g3
         have g2' : ¬ fn.name = "runtime.NumGoroutine" := by simpa using g2
         intro args w;simp[callFunc,g1,g2',g3']
       have hcall:=hS.some enc' hencl hone cf' hO g cb.toArray gb 0 cap d.toArray w eg hcmp hH hblk (by simpa[hdlen] using hsz);have hsd:d.toArray.size=l.length:=by simp[hdlen]
       rw[hsd] at hcall;rw[hv];refine hcall.mono fun e' w' ⟨he,dk,n,os,hperm,hsorted,hw⟩=>?_
       subst he;simp only[hd];rw[hsw] at hw;obtain⟨hps,_,hpp⟩:=hperm;have hdks:dk.size=l.length:=by rw[hps,hsd]
       have hml:(dk.toList.map fun z=>l[z.1]'z.2)=l.mergeSort fun x y=>!decide (cf y x<0):=by
         refine A1 hirr htr htot hp ?_ ?_
         · have e0 : ∀ (a : Array {i // i < l.length}) n, n = a.size → (a.extract 0 n).toList = a.toList := by rintro a _ rfl; simp
           have e1:=e0 dk l.length hdks.symm;have e2:=e0 d.toArray l.length hsd.symm;rw[List.toList_toArray] at e2;rw[e1,e2] at hpp;have e3:(d.map fun z=>l[z.1]'z.2)=l:=by
             apply abJ;intro j;rcases aa9 j l.length with hj|hj
             · simp[d,hj]
             · rw[abg (by simp[hdlen];omega),abg hj]
           have:=hpp.map fun z=>l[z.1]'z.2
           rwa [e3] at this
         · rw [acV, acr]
           intro i j hi hj hij;have:=hsorted i j (aaG _) hij (by simpa[hdks] using hj);rw[getElem!_pos dk j (by simpa using hj),getElem!_pos dk i (by simpa using hi)] at this;simpa[ltOf,cf'] using this
       rw[←hml];have hgr:w.grownBy w' (some gb):=by
         rw[hw];exact⟨rfl,rfl,rfl,by rw[fI];omega,fun k hk hne=>eY _ _ _ _ _ _ (fun he=>hne (by rw[he])) hk⟩
       have hdrawn:w.drawn≤w'.drawn:=by rw[hw];simp[sortWorld,grow,putRow,mapBlock,Sort.ahead]
       have hhw:w'.heap[gb]?=some (.cells (putCells _root_.id 0 (flatK enc' k dk) cur) e (0,0)):=by
         have:=jT (α:=Value) (enc:=_root_.id) w gb n (flatK enc' k dk) os (off:=0) hh;rw[hw];exact this
       refine⟨E,ba.put ?_ (by simpa[St.cK] using hn) (bL.tup [] [] J (fun j d hd=>by simp at hd))⟩;refine hs.cK false (fun _=>⟨rfl,.inl ⟨e,_,_,hl,rfl,by simp[hdks]⟩⟩) hnd ae (fun i hi=>⟨rfl,rfl⟩) (.inr J) (some gb) hgr (fun _=>hdrawn) (fun g' hg'=>⟨_,hl,by simp only[aaB] at hg';subst hg';simp only[bG,hv,Value.ownBlock]⟩) (fun b hb=>.inl ⟨_,hl,hb⟩) (fun rep sv=>?_);have hnlen:(flatK enc' k dk).size=l.length*k:=by rw[size_flatK,hdks]
       have hcl2:∀z∈((dk.toList.map fun z=>l[z.1]'z.2).map fun z=>AV.agg (cells z)),(AV.cells z).length=k:=fun z hz=>by
         rw[aa7] at hz;obtain⟨q,hq,rfl⟩:=hz;rw[aa7] at hq;obtain⟨u,_,rfl⟩:=hq;exact hcells _ (abV u.2)
       refine⟨(flatK enc' k dk).toList,⟨⟨by rw[hck];simp[hdks],.inr ⟨gb,cap,_,by rw[hv];simp[hdks],hgb,hhw,by simpa[hdks] using hnc',hcm,by rw[hck];simpa[putCells] using hcs,?_⟩⟩,hownF⟩,fun z hz=>by rw[hck];exact hcl2 z hz,fun j d' hd'=>?_⟩
       · rw [hck]
         apply abJ;intro j;simp only[aaA,acB,hdks];rw[abo];by_cases hj:j<l.length*k
         · have hcj : cur[j]? = some (vals[j]'(by rw [hvlen]; exact hj)) := by rw [hcurj j hj, aaF]
           rw[if_pos hj,abi];simp only[putCells,Array.getElem?_mapIdx,hcj,abu,aaG,true_and,abL,hnlen,hj,if_true,acE,_root_.id];rw[abi,abd adh,getElem!_pos _ j adh]
         · rw[if_neg hj,abg (by simp[hnlen];omega)]
       · have hj : j < l.length * k := by
           have:=(aa0.1 hd').1;rw[bQ _ hcl2] at this;simpa[hdks] using this
         have hdv:j / k<l.length:=Nat.div_lt_of_lt_mul (by rw[ac1];exact hj);have hm:j % k<k:=Nat.mod_lt _ hk0;have hjk:j / k*k+j % k=j:=by rw[ac1,Nat.div_add_mod]
         have hg1:((dk.toList.map fun z=>l[z.1]'z.2).map fun z=>AV.agg (cells z))[j / k]?=some (.agg (cells (l[(dk[j / k]!).1]'(dk[j / k]!).2))):=by
           rw[aaI,aaI,abi,abd adh,getElem!_pos dk _ adh];rfl
         have hd2:=flat_get _ (j / k) _ hcl2 hg1 (j % k) hm;rw[hjk,hd'] at hd2;obtain⟨_,q2,q3⟩:=hrepx (dk[j / k]!) (j % k) d' hd2.symm;refine⟨q2,?_⟩;have e1:(flatK enc' k dk).toList.getD j undef=(enc' (dk[j / k]!)).getD (j % k) undef:=by
           rw[hencd _ _ hm,aax,aax,←hfk dk hdks j hj,abi,abd adh,getElem!_pos _ j adh]
         rw[e1];exact rep _ _ _ q3 adj
end
structure VR (P:Program)(f:FuncId)(k:Nat):Prop where
 bu:cq P f
 none:∀(p:Option Addr)(cap:Nat)(w:World),Calls P f #[.slice p 0 cap] w fun e w'=>e=.returned (.tuple #[])∧w'=w
 some:∀{α:Type} [Inhabited α](enc:α→List Value)(hk:∀x,(enc x).length=k)(h1:∀x,∀v∈enc x,v.oneCell'=true)(blk off cap:Nat)(d:Array α)(w:World)(hH:HoldsK enc k w blk off d)(hsz:d.size≤9223372036854775807),
  Calls P f #[.slice (.some ⟨blk,off,.none⟩) d.size cap] w fun e w'=>e=.returned (.tuple #[])∧∃n,w'=putRowK enc k (Sort.ahead w n) blk off d.reverse
section
variable {P:Program} {w0:Fr}{M0:Nat→Prop}
variable {o:Oper} {s:St}{x y:Operand}{T T' e:TypeId}{c:fX}{id t k:Nat}
theorem A2  {cells:β→List AV} {l:List β} {f:FuncId} {ats:Array TypeId} (hS:VR P f k) (ho:o.op=.call { callee:=.value (.func f),args:=#[x],argTypes:=ats }) (hd:o.dst=some t) (hn:Nat.blt t s.n=true)
   (hnd:Nodup s.s=true)(hx:s.ev x=some (.own id))(hl:s.o.lookup id=some (.arr e (l.map fun z=>.agg (cells z))))(hk:bX P e=some k)(hk0:0<k)
   (hsz:l.length<4611686018427387904)(ae:∀b,M0 b→b<w0.w.heap.size) :
   Step P w0 M0 o s ((s.cK false id (.arr e (l.reverse.map fun z=>.agg (cells z)))).put t (.v .pl (.tup []))):=by
 rintro a w Q ⟨E,hs⟩;have hxv:=hs.ev hx _ _ hl;have hob:=hs.wok.objs id _ hl;obtain⟨vals,⟨hown,hownF⟩,hcl,hrp⟩:=hob;have hck:=cQ hk;have hxl:(l.map fun z=>AV.agg (cells z)).length=l.length:=by simp
 have hvlen:vals.length=l.length*k:=by have:=hown.1;rw[hck] at this;simpa using this
 have hcells:∀z∈l,(cells z).length=k:=fun z hz=>by have:=hcl _ (acR hz);rw[hck] at this;exact this
 have hclk:∀x∈(l.map fun z=>AV.agg (cells z)),(AV.cells x).length=k:=fun x hx=>by rw[←hck];exact hcl x hx
 have hfl:∀(i j:Nat)(hi:i<l.length),j<k→(flat (l.map fun z=>AV.agg (cells z)))[i*k+j]?=(cells l[i])[j]?:=fun i j hi hj=>by
   rw[flat_get _ i (.agg (cells l[i])) hclk (by rw[aaI,aaF hi];rfl) j hj];rfl
 · skip
   have hrun:(execOp a.eval o).run P w=.ok (.enter f #[E.cur id]) w:=by
     have:=fG (P:=P) (ev:=a.eval) (w:=w) (caps:=#[]) ho rfl hS.bu;simpa[hxv] using this
   unfold Oper.wp;rw[hrun];simp only[Oper.upon];rcases hown.2 with⟨hv,hn0⟩|⟨gb,cap,cur,hv,hgb,hh,hnc',hcm,hcs,htake⟩
   · -- nothing to sort
     have hl0:l=[]:=aa4 (by simpa using hn0);rw[hv];refine(hS.none none 0 w).mono fun e' w' ⟨he,hw⟩=>?_
     subst he;subst hw;simp only[hd];refine⟨E,ba.put ?_ (by simpa[St.cK] using hn) (bL.tup [] [] J (fun j d hd=>by simp at hd))⟩;refine hs.cK false (fun _=>⟨rfl,.inl ⟨e,_,_,hl,rfl,by simp⟩⟩) hnd ae (fun i hi=>⟨rfl,rfl⟩) (.inr J) none ⟨rfl,rfl,rfl,aaD _,fun _ _ _=>rfl⟩ (fun _=>aaD _) (fun g hg'=>by cases hg') (fun b hb=>.inl ⟨_,hl,hb⟩) (fun rep sv=>?_);subst hl0;simp only[List.reverse_nil,abW];refine⟨[],⟨⟨by simp,.inl ⟨hv,rfl⟩⟩,hownF⟩,fun x hx=>(by cases hx),fun j d hd=>(by simp[flat] at hd)⟩
   · rw [hxl] at hv hnc' htake
     rw[hck] at hcs;rw[hck] at htake;rcases abZ l.length with hl0|hpos
     · -- nothing to sort, with room behind
       have hl0:l=[]:=aa4 hl0;rw[hv,hl0];refine(hS.none _ cap w).mono fun e' w' ⟨he,hw⟩=>?_
       subst he;subst hw;simp only[hd];refine⟨E,ba.put ?_ (by simpa[St.cK] using hn) (bL.tup [] [] J (fun j d hd=>by simp at hd))⟩;refine hs.cK false (fun _=>⟨rfl,.inl ⟨e,_,_,hl,rfl,by simp[hl0]⟩⟩) hnd ae (fun i hi=>⟨rfl,rfl⟩) (.inr J) none ⟨rfl,rfl,rfl,aaD _,fun _ _ _=>rfl⟩ (fun _=>aaD _) (fun g hg'=>by cases hg') (fun b hb=>.inl ⟨_,hl,hb⟩) (fun rep sv=>?_);simp only[List.reverse_nil,abW];refine⟨[],⟨⟨by simp,.inr ⟨gb,cap,cur,by rw[hv,hl0];rfl,hgb,hh,aaG _,hcm,by rw[hck];exact hcs,by simp⟩⟩,hownF⟩,fun x hx=>(by cases hx),fun j d hd=>(by simp[flat] at hd)⟩
     · have hblk : gb < w.heap.size := (abn.1 hh).1
       have:Inhabited {i // i<l.length}:=⟨⟨0,hpos⟩⟩
       let d:List {i // i<l.length}:=(List.range l.length).attach.map fun z=>⟨z.1,aba.1 z.2⟩
       have hdl:d.map (·.1)=List.range l.length:=by simp[d,acu,ac9]
       have hdlen:d.length=l.length:=by simp[d]
       let enc':{i // i<l.length}→List Value:=fun z=>(vals.drop (z.1*k)).take k
       have hend:∀x:{i // i<l.length},x.1*k+k≤l.length*k:=fun x=>by
         have:=abR k (show x.1+1≤l.length from x.2);rwa [acL,Nat.one_mul] at this
       have hencl:∀x,(enc' x).length=k:=fun x=>by have:=hend x;simp only[enc',aaO,aaX];omega
       have hencg:∀x j,j<k→(enc' x)[j]?=vals[x.1*k+j]?:=fun x j hj=>rF hj
       have hencd:∀x j,j<k→(enc' x).getD j undef=vals.getD (x.1*k+j) undef:=fun x j hj=>by rw[aax,aax,hencg x j hj]
       have hrepx:∀(x:{i // i<l.length}) j d',(cells (l[x.1]'x.2))[j]?=some d'→j<k∧AV.leaf d'=true∧bL w (cI M0 (owned E s.o) .pl) ((enc' x).getD j undef) d':=fun x j d' hd'=>by
         have hj:j<k:=by rw[←hcells _ (abV x.2)];exact(aa0.1 hd').1
         have:=hrp (x.1*k+j) d' (by rw[hfl x.1 j x.2 hj];exact hd');exact⟨hj,this.1,by rw[hencd x j hj];exact this.2⟩
       have hone:∀x,∀v∈enc' x,v.oneCell'=true:=fun x v hv'=>by
         obtain⟨j,hj,rfl⟩:=abF hv';rw[hencl] at hj;obtain⟨q1,q2,q3⟩:=hrepx x j ((cells (l[x.1]'x.2))[j]'(by rw[hcells _ (abV x.2)];exact hj)) (aaF _);rw[aax,aaF (by rw[hencl];exact hj)] at q3;exact q3.one q2
       have hcurj:∀j (hj:j<l.length*k),cur[j]?=vals[j]?:=fun j hj=>by
         have:(cur.toList.take (l.length*k))[j]?=vals[j]?:=by rw[htake]
         rwa [abo,if_pos hj,abi] at this
       have hdj:∀j (hj:j<l.length),(d.toArray[j]!).1=j:=fun j hj=>by
         rw[getElem!_pos d.toArray j (by simpa[hdlen] using hj)];simp[d]
       have hfk:∀(dk:Array {i // i<l.length}),dk.size=l.length→∀u,u<l.length*k→some (flatK enc' k dk)[u]! = vals[(dk[u / k]!).1*k+u % k]?:=fun dk hdk u hu=>by
         rw[get_flatK enc' k dk u (by rw[hdk];exact hu)];have hm:u % k<k:=Nat.mod_lt _ hk0;have:=hencg (dk[u / k]!) (u % k) hm;rw[getElem!_pos _ _ (by rw[hencl];exact hm),←this,aaF]
       have hH:HoldsK enc' k w gb 0 d.toArray:=by
         intro j hj;have hj':j<l.length*k:=by simpa[hdlen] using hj
         have hdv:j / k<l.length:=Nat.div_lt_of_lt_mul (by rw[ac1];exact hj');refine⟨?_,?_⟩
         · simp only [World.cell?, hh, abL, _root_.id]
           rw[hfk d.toArray (by simp[hdlen]) j hj',hdj _ hdv];show cur[j]?=_;rw[hcurj j hj']
           congr 1
           rw[ac1,Nat.div_add_mod]
         · simp only [World.frozen?, hh]
           simp
       have hsw:∀n dk os,sortWorldK enc' k w gb 0 n dk os=sortWorld (α:=Value) _root_.id w gb 0 n (flatK enc' k dk) os:=fun _ _ _=>rfl
       have hcall:=hS.some enc' hencl hone gb 0 cap d.toArray w hH (by simp[hdlen];omega);have hsd:d.toArray.size=l.length:=by simp[hdlen]
       rw[hsd] at hcall;rw[hv];refine hcall.mono fun e' w' ⟨he,n,hw⟩=>?_
       subst he;simp only[hd];obtain⟨dk,hdk⟩:∃dk,dk=d.toArray.reverse:=⟨_,rfl⟩;rw[←hdk] at hw;have hw:w'=sortWorld (α:=Value) _root_.id w gb 0 n (flatK enc' k dk) #[]:=by rw[hw];unfold sortWorld;rw[grow_empty];rfl
       have hdks:dk.size=l.length:=by rw[hdk,Array.size_reverse,hsd]
       have hml:(dk.toList.map fun z=>l[z.1]'z.2)=l.reverse:=by
         have e3:(d.map fun z=>l[z.1]'z.2)=l:=by
           apply abJ;intro j;rcases aa9 j l.length with hj|hj
           · simp[d,hj]
           · rw[abg (by simp[hdlen];omega),abg hj]
         rw[hdk,Array.toList_reverse,List.map_reverse,List.toList_toArray,e3]
       rw[←hml];have hgr:w.grownBy w' (some gb):=by
         rw[hw];exact⟨rfl,rfl,rfl,by rw[fI];omega,fun k hk hne=>eY _ _ _ _ _ _ (fun he=>hne (by rw[he])) hk⟩
       have hdrawn:w.drawn≤w'.drawn:=by rw[hw];simp[sortWorld,grow,putRow,mapBlock,Sort.ahead]
       have hhw:w'.heap[gb]?=some (.cells (putCells _root_.id 0 (flatK enc' k dk) cur) e (0,0)):=by
         have:=jT (α:=Value) (enc:=_root_.id) w gb n (flatK enc' k dk) #[] (off:=0) hh;rw[hw];exact this
       refine⟨E,ba.put ?_ (by simpa[St.cK] using hn) (bL.tup [] [] J (fun j d hd=>by simp at hd))⟩;refine hs.cK false (fun _=>⟨rfl,.inl ⟨e,_,_,hl,rfl,by simp[hdks]⟩⟩) hnd ae (fun i hi=>⟨rfl,rfl⟩) (.inr J) (some gb) hgr (fun _=>hdrawn) (fun g' hg'=>⟨_,hl,by simp only[aaB] at hg';subst hg';simp only[bG,hv,Value.ownBlock]⟩) (fun b hb=>.inl ⟨_,hl,hb⟩) (fun rep sv=>?_);have hnlen:(flatK enc' k dk).size=l.length*k:=by rw[size_flatK,hdks]
       have hcl2:∀z∈((dk.toList.map fun z=>l[z.1]'z.2).map fun z=>AV.agg (cells z)),(AV.cells z).length=k:=fun z hz=>by
         rw[aa7] at hz;obtain⟨q,hq,rfl⟩:=hz;rw[aa7] at hq;obtain⟨u,_,rfl⟩:=hq;exact hcells _ (abV u.2)
       refine⟨(flatK enc' k dk).toList,⟨⟨by rw[hck];simp[hdks],.inr ⟨gb,cap,_,by rw[hv];simp[hdks],hgb,hhw,by simpa[hdks] using hnc',hcm,by rw[hck];simpa[putCells] using hcs,?_⟩⟩,hownF⟩,fun z hz=>by rw[hck];exact hcl2 z hz,fun j d' hd'=>?_⟩
       · rw [hck]
         apply abJ;intro j;simp only[aaA,acB,hdks];rw[abo];by_cases hj:j<l.length*k
         · have hcj : cur[j]? = some (vals[j]'(by rw [hvlen]; exact hj)) := by rw [hcurj j hj, aaF]
           rw[if_pos hj,abi];simp only[putCells,Array.getElem?_mapIdx,hcj,abu,aaG,true_and,abL,hnlen,hj,if_true,acE,_root_.id];rw[abi,abd adh,getElem!_pos _ j adh]
         · rw[if_neg hj,abg (by simp[hnlen];omega)]
       · have hj : j < l.length * k := by
           have:=(aa0.1 hd').1;rw[bQ _ hcl2] at this;simpa[hdks] using this
         have hdv:j / k<l.length:=Nat.div_lt_of_lt_mul (by rw[ac1];exact hj);have hm:j % k<k:=Nat.mod_lt _ hk0;have hjk:j / k*k+j % k=j:=by rw[ac1,Nat.div_add_mod]
         have hg1:((dk.toList.map fun z=>l[z.1]'z.2).map fun z=>AV.agg (cells z))[j / k]?=some (.agg (cells (l[(dk[j / k]!).1]'(dk[j / k]!).2))):=by
           rw[aaI,aaI,abi,abd adh,getElem!_pos dk _ adh];rfl
         have hd2:=flat_get _ (j / k) _ hcl2 hg1 (j % k) hm;rw[hjk,hd'] at hd2;obtain⟨_,q2,q3⟩:=hrepx (dk[j / k]!) (j % k) d' hd2.symm;refine⟨q2,?_⟩;have e1:(flatK enc' k dk).toList.getD j undef=(enc' (dk[j / k]!)).getD (j % k) undef:=by
           rw[hencd _ _ hm,aax,aax,←hfk dk hdks j hj,abi,abd adh,getElem!_pos _ j adh]
         rw[e1];exact rep _ _ _ q3 adj
end
end Go.Am
namespace Go.Wb
open Go.Am Go.Wc
section
variable {most n:Int}{st:List Rx}
end
structure Yl where
 kind:Int
 atom:Rx
 pos:Int
instance:Inhabited Yl:=⟨⟨0,dO,0⟩⟩
structure PS where
 l:List Yl
 bad:Int
def PS.hd (s:PS):Int:=(s.l.getD 0 default).kind
def PS.fail (s:PS):PS:=if s.bad<0 then⟨s.l,(s.l.getD 0 default).pos⟩ else s
structure NN (l:List Yl):Prop where
 nf:∀t∈l,Nf t.atom
 pos:∀t∈l,0≤t.pos
theorem NN.sub {l m:List Yl}(h:NN l)(hs:∀t∈m,t∈l):NN m:=⟨fun t ht=>h.nf t (hs t ht),fun t ht=>h.pos t (hs t ht)⟩
end Go.Wb
namespace Go.Wc
open Go.Am
abbrev YX:List UInt8:=[48,49,50,51,52,53,54,55,56,57,45,35,46,124,40,41,42,63,123,125,62,47,95,126,59,58,44,61,34,64]
def YY (c:UInt8):Bool:=YX.contains c||decide (c.toNat<33)
def TX (s:List UInt8):Bool:=s.all (fun c=>!YY c)&&decide (1≤s.length)&&decide (s.length≤4)
def TY (a:List cP)(x:cP):Prop :=
 TX x.text=true∧0≤x.base∧x.base<a.length∧(a.getD x.base.toNat default).base=x.base∧0≤x.mark∧x.mark≤15∧0≤x.cap∧x.cap≤1∧1≤x.width∧x.width≤1000
def TZ (x:cP)(i:Nat):Prop:=x.base=i→x.mark=0∧x.cap=0
def T0 (a:List cP)(i:Nat):Prop:=∀k,k<i→(a.getD k default).text≠(a.getD i default).text
def YZ (a:List cP)(i:Nat):Prop:=TY a (a.getD i default)∧TZ (a.getD i default) i∧T0 a i
instance (a:List cP)(x:cP):Decidable (TY a x):=by unfold TY;infer_instance
instance (x:cP) (i:Nat):Decidable (TZ x i):=by unfold TZ;infer_instance
instance (a:List cP)(i:Nat):Decidable (T0 a i):=by unfold T0;infer_instance
instance (a:List cP)(i:Nat):Decidable (YZ a i):=by unfold YZ;infer_instance
def NO (a:List cP):Prop:=(1≤a.length∧a.length≤60)∧∀i,i<a.length→YZ a i
instance (a:List cP):Decidable (NO a):=by unfold NO;infer_instance
end Go.Wc
namespace Go.Wb
open Go.Am Go.Wc
structure VS where
 name:List UInt8
 syms:List Int
instance:Inhabited VS:=⟨⟨[],[]⟩⟩
def preB (s t:List UInt8):Bool:=decide (t.length≤s.length)&&decide (s.take t.length=t)
def NP (a:List cP)(t:List UInt8):Nat→Nat×Nat
 | 0=>(0,0)
 | i+1=>if(NP a t i).2<(a.getD i default).text.length∧preB t (a.getD i default).text=true then(i,(a.getD i default).text.length) else NP a t i
section
variable {a:List cP}{sets:List VS}{s t:List UInt8}
section
variable (hb:¬ 0<(NP a t a.length).2)
end
end
theorem yo:∀ {l:List Int}{m:Nat},pT Ge l→(∀x∈l,(m:Int)≤x∧x<64)→l.length≤64-m
 | [],m,_,_=>aaG _
 | x :: l, m, hs, h => by
   have h1:=h x aaJ;have h2:=abt.1 hs;have h3:=yo (l:=l) (m:=m+1) h2.2 fun y hy=>⟨by
     have:=h2.1 y hy;have h4:=of_decide_eq_true this.1;have h5:=this.2;omega,(h y (aaW _ hy)).2⟩
   rw[aaE];omega
theorem Kv {s:List Int}(h:jV s=true):s.length≤64:=by have h1:=jJ.1 h;exact yo (m:=0) h1.2.1 fun x hx=>h1.2.2 x hx
def Sv (x:Rx):Rx:=aN true x
structure QB (x:Rx):Prop where
 nf:Nf x
 kind:(Sv x).kind=x.kind
 acc:cT (Sv x)=cT x
 rnf:Nf (Sv x)
 inv:Sv (Sv x)=x
 kids:x.kind=4→∀y∈(Sv x).kids,∃z∈x.kids,y.kind=z.kind
 kids':x.kind=4→∀z∈x.kids,∃y∈(Sv x).kids,z.kind=y.kind
variable{x:Rx}
theorem QB.rv (h:QB x):QB (Sv x):=by
 refine⟨h.rnf,by rw[h.inv,h.kind],by rw[h.inv,h.acc],by rw[h.inv];exact h.nf,by rw[h.inv],fun h4 y hy=>?_,fun h4 y hy=>?_⟩
 ·rw[h.inv] at hy;exact h.kids' (by rw[←h.kind];exact h4) y hy
 ·rw[h.inv];exact h.kids (by rw[←h.kind];exact h4) y hy
structure Sw (l:List Rx):Prop where
 len:2≤l.length
 rv:∀x∈l,QB x
 kinds:∀x∈l,x.kind≠0∧x.kind≠4
 srt:pT rh l
 two:∀x∈l,∀y∈l,x.kind=2→y.kind=2→x=y
 acc:∀x∈l,x.kind=1→∀y∈l,y.kind≠1→cT y=false
variable{l:List Rx}
theorem Sw.nf (h:Sw l):Nf (.mk 4 [] l):=.alt h.len (fun x hx=>(h.rv x hx).nf) h.kinds h.srt h.two h.acc
theorem NQ {D:List Rx}(hs:pT rh D)(hn:∀x∈D,Nf x∧x.kind≠0):x∈j9 D↔x∈D∧¬(x.kind=1∧∃y∈D,y.kind≠1∧cT y=true):=by
 by_cases h:1<D.length∧(D.getD 0 default).kind=1∧(D.drop 1).any cT=true
 ·rw[x7 h.1 h.2.1 h.2.2];have h0:D.getD 0 default∈D:=aS adh;constructor
  ·intro hx;have hd:=nR hs hx;exact⟨hd.2,fun q=>hd.1 (ff hs hn hd.2 q.1).symm⟩
  ·rintro⟨hx,hq⟩;refine nS hx fun e=>hq ⟨by rw[e];exact h.2.1,?_⟩
   obtain⟨y,hy,ha⟩:=abk.1 h.2.2;have hd:=nR hs hy;exact⟨y,hd.2,fun q=>hd.1 (ff hs hn hd.2 q).symm,ha⟩
 ·rw[mj h];refine⟨fun hx=>⟨hx,?_⟩,fun q=>q.1⟩;rintro⟨hk,y,hy,hy1,ha⟩;have e:=ff hs hn hx hk;have hy2:y∈D.drop 1:=nS hy fun q=>hy1 (by rw[q,e];exact hk)
  refine h ⟨?_,by rw[e];exact hk,abk.2 ⟨y,hy2,ha⟩⟩;have:=acD hy2;rw[aaX] at this;omega
mutual
def Dq:Rx→Nat
 | .mk k _ l=>if k=3∨k=4 then rk l else if k=5 then 1+rk l else if k=2 then 2 else 1
def rk:List Rx→Nat
 | []=>0
 | x :: l=>Dq x+rk l
end
theorem Cu (r:Rx):Dq r=if r.kind=3∨r.kind=4 then rk r.kids else if r.kind=5 then 1+rk r.kids else if r.kind=2 then 2 else 1:=by cases r with|mk k s l=>rw[Dq];rfl
variable{r:Rx}
theorem uN (h:r.kind=3∨r.kind=4):Dq r=rk r.kids:=by rw[Cu,if_pos h]
theorem NR (h:r.kind=5):Dq r=1+rk r.kids:=by rw[Cu,if_neg adh,if_pos h]
theorem Sx (h:r.kind=2):Dq r=2:=by rw[Cu,if_neg adh,if_neg adh,if_pos h]
theorem Sy (h:r.kind=0∨r.kind=1):Dq r=1:=by rw[Cu,if_neg adh,if_neg adh,if_neg adh]
theorem ID:rk []=0:=by rw[rk]
theorem nX (x:Rx)(l:List Rx):rk (x :: l)=Dq x+rk l:=by rw[rk]
theorem IE (x:Rx):rk [x]=Dq x:=by rw[rk,rk];rfl
theorem IF:∀ l m:List Rx,rk (l++m)=rk l+rk m
 | [],m=>by rw[abH,ID,abL]
 | x :: l,m=>by rw[acg,nX,nX,IF l m];omega
theorem QC (h:x∈l):Dq x≤rk l:=by
 induction l with
 | nil=>cases h
 | cons y l ih =>
   rw[nX];rcases aa3.1 h with rfl|h
   · omega
   · have:=ih h;omega
theorem Cv {n:Nat}:∀{l:List Rx},(∀x∈l,n≤Dq x)→n*l.length≤rk l
 | [],_=>by rw[ID];exact aaD _
 | x :: l, h => by
   have h1:=Cv (l:=l) fun y hy=>h y (aaW _ hy)
   have h2:=h x aaJ;rw[nX,aaE,Nat.mul_add];omega
theorem Sz (h:Nf x):1≤Dq x∧(2≤x.kind→2≤Dq x):=by
 induction h with
 | none=>rw[Sy (.inl rfl)];exact⟨aaD _,fun h=>absurd h adj⟩
 | empty=>rw[Sy (.inr rfl)];exact⟨aaD _,fun h=>absurd h adj⟩
 | set h=>rw[Sx rfl];exact⟨by decide,fun _=>aaD _⟩
 | @seq l h2 hn hk ih =>
   rw[uN (.inl rfl)];show 1≤rk l∧(_→2≤rk l);have:=Cv (n:=1) fun x hx=>(ih x hx).1
   exact⟨adh,fun _=>adh⟩
 | @alt l h2 hn hk h4 h5 h6 ih =>
   rw[uN (.inr rfl)];show 1≤rk l∧(_→2≤rk l);have:=Cv (n:=1) fun x hx=>(ih x hx).1
   exact⟨adh,fun _=>adh⟩
 | @star y hn hk h4 ih =>
   rw[NR rfl];show 1≤1+rk [y]∧(_→2≤1+rk [y]);rw[IE];have:=ih.1;exact⟨adh,fun _=>adh⟩
mutual
def dZ:Rx→Nat
 | .mk k s l=>if k=4 then 2+Vh l else if k=3 then 2+Zq l else if k=5 then 2+Vh l+(Rx.mk k s l).size else 2
def Vh:List Rx→Nat
 | []=>0
 | x :: l=>dZ x+Vh l
def Zq:List Rx→Nat
 | []=>0
 | x :: l=>2+dZ x+Rx.aE l+Zq l
end
theorem VT (r:Rx):dZ r=if r.kind=4 then 2+Vh r.kids else if r.kind=3 then 2+Zq r.kids else if r.kind=5 then 2+Vh r.kids+r.size else 2:=by cases r with|mk k s l=>rw[dZ];rfl
theorem abq (h:r.kind=5):dZ r=2+Vh r.kids+r.size:=by rw[VT,if_neg adh,if_neg adh,if_pos h]
theorem Nf.Ym {y:Rx}(h:Nf x)(hy:y∈x.kids):Nf y:=by
 cases h with
 | none=>cases hy
 | empty=>cases hy
 | set h=>cases hy
 | seq h1 h2 h3=>exact h2 y hy
 | alt h1 h2 h3 h4 h5 h6=>exact h2 y hy
 | star h1 h2 h3=>rw[aaY.1 hy];exact h1
theorem Kx {p q:Rx→Prop}(hd:l.Pairwise (·≠·))(h:∀x∈l,p x∨q x)(hp:∀x∈l,∀y∈l,p x→p y→x=y)(hq:∀x∈l,∀y∈l,q x→q y→x=y):l.length≤2:=by
 match l,hd,h,hp,hq with
 | [],_,_,_,_=>exact aaG _
 | [a],_,_,_,_=>exact Nat.le_succ _
 | [a,b],_,_,_,_=>exact aaD _
 | a :: b :: c :: l, hd, h, hp, hq =>
   exfalso;have d1:=abt.1 hd;have d2:=abt.1 d1.2;have ab:=d1.1 b (by simp);have ac:=d1.1 c (by simp);have bc:=d2.1 c (by simp);have ma:a∈a :: b :: c :: l:=by simp
   have mb:b∈a :: b :: c :: l:=by simp
   have mc:c∈a :: b :: c :: l:=by simp
   rcases h a ma with ha|ha<;>rcases h b mb with hb|hb<;>rcases h c mc with hc|hc <;>
     first|exact ab (hp _ ma _ mb ha hb)|exact ac (hp _ ma _ mc ha hc)|exact bc (hp _ mb _ mc hb hc)|exact ab (hq _ ma _ mb ha hb)|exact ac (hq _ ma _ mc ha hc)|exact bc (hq _ mb _ mc hb hc)
theorem NS {a b:Rx}(ha:Nf a)(hb:Nf b)(ka:a.kind=3∨a.kind=5)(kb:b.kind=3∨b.kind=5)(h:cE a=cE b):a=b:=by
 rcases ka with ka|ka
 ·rcases kb with kb|kb
  ·rw[iP ka,iP kb] at h;rw[(ha.k3 ka).1,(hb.k3 kb).1,h]
  ·rw[ep (x:=b) adh adh] at h;exact yj ha h
 ·rw[ep (x:=a) adh adh] at h;exact(yj hb h.symm).symm
theorem T1 {t:Rx}(ht:Nf t):((pr t).map cE).Pairwise (·≠·):=by
 have h1:(pr t).Pairwise (·≠·):=by
  unfold pr;refine List.Pairwise.filter _ ?_;by_cases h4:t.kind=4
  ·rw[gS h4];exact ade (fun h=>h.2) (ht.k4 h4).2.2.2.2.1
  ·rw[jx h4];exact aci _ _
 rw[acV];refine List.Pairwise.imp_of_mem (fun{a b} ha hb hab e=>?_) h1;have h2:=GZ ht ha;have h3:=GZ ht hb;exact hab (NS h2.1 h3.1 h2.2 h3.2 e)
theorem IG (hx:Nf x)(ih:∀v M,M∈dP x v→M.length≤Dq x){u:List Int}{M:List Rx}(h:M∈cv x u (dP x u)):M.length≤Dq x:=by
 unfold cv at h;split at h
 · exact ih _ _ h
 · rcases aa3.1 h with rfl | h
   · by_cases k3 : (Dv x u).kind = 3
     · exact ih u _ ((oU hx).all u _ (la (.inl k3)))
     · have h1 := (Sz hx).1
       by_cases k1:(Dv x u).kind=1
       · rw[mi k1];exact aaG _
       · rw[ep k3 k1];exact h1
   · exact ih _ _ h
theorem yp (h:Nf x):∀v M,M∈dP x v→M.length≤Dq x:=by
 induction h with
 | none=>intro v M h;rw[nv adj adj adj] at h;cases h
 | empty=>intro v M h;rw[nv adj adj adj] at h;cases h
 | set h=>intro v M h;rw[nv (by simp[Rx.kind]) (by simp[Rx.kind]) (by simp[Rx.kind])] at h;cases h
 | @seq l h2 hn hk ih =>
   intro v M h;rw[Cr rfl] at h;obtain⟨pre,y,R,e,u,hu,M',hM,rfl⟩:=iv.1 h;have e':l=pre++y :: R:=e;have hy:y∈l:=by rw[e'];simp
   have h3:=IG (hn y hy) (ih y hy) hM;have h4:=Cv (n:=1) (l:=R) fun z hz=>(Sz (hn z (by rw[e'];simp[hz]))).1
   rw[uN (.inl rfl)];show _≤rk l;rw[e',IF,nX,aaM];omega
 | @alt l h2 hn hk h4 h5 h6 ih =>
   intro v M h;rw[Cq rfl] at h;obtain⟨y,hy,h⟩:=j2.1 h;have h1:=ih y hy v M h;have h2:=QC (l:=l) hy;rw[uN (.inr rfl)];show _≤rk l;omega
 | @star y hn hk h4 ih =>
   intro v M h;have e:dP (.mk 5 [] [y]) v=[.mk 5 [] [y]] :: G0 [y] v (.mk 5 [] [y]):=uM rfl v;rw[e] at h;rw[NR rfl];show _≤1+rk [y];rw[IE];rcases aa3.1 h with rfl|h
   · exact Nat.le_add_right 1 _
   · obtain ⟨u, hu, M', hM, rfl⟩ := mn.1 h
     have:=IG hn ih hM;rw[aaM,abD];omega
section
variable {C N R Z:Nat}{f F s S a A g G:Nat→Nat→Nat}
end
mutual
def wd:Rx→Nat
 | .mk _ s l=>max (max s.length l.length) (T2 l)
def T2:List Rx→Nat
 | []=>0
 | x :: l=>max (wd x) (T2 l)
end
theorem NT {B:Nat}:∀{l:List Rx},T2 l≤B↔∀x∈l,wd x≤B
 | []=>by rw[T2];exact⟨fun _ x hx=>(by cases hx),fun _=>aaG _⟩
 | y :: l => by
   rw[T2,Nat.max_le,NT (l:=l)];exact⟨fun h x hx=>by
     rcases aa3.1 hx with rfl|hx
     · exact h.1
     · exact h.2 x hx,fun h=>⟨h y aaJ,fun x hx=>h x (aaW _ hx)⟩⟩
theorem gW {B:Nat}:wd r≤B↔(r.syms.length≤B∧r.kids.length≤B)∧∀x∈r.kids,wd x≤B:=by
 cases r with|mk k s l =>
 rw[wd,Nat.max_le,Nat.max_le,NT];rfl
theorem iy {B:Nat}(h:wd r≤B)(hx:x∈r.kids):wd x≤B:=(gW.1 h).2 x hx
mutual
theorem IH:∀ r:Rx,wd r≤r.size
 | .mk k s l => by
   rw[wd,Rx.size];have h1:=EI l;have h2:=du l;omega
theorem EI:∀ l:List Rx,T2 l≤Rx.aE l
 | []=>aaD _
 | x :: l => by
   rw[T2,Rx.aE];have h1:=IH x;have h2:=EI l;omega
end
abbrev Pos:=Option Rx×List Rx
def Pos.on (R:List Rx)(e:Pos):Pos:=(e.1,e.2++R)
mutual
def tv:Rx→List Pos
 | .mk k s l=>if k=4 then EJ l else if k=3 then zM l else if k=5 then(none,[.mk k s l]) :: G5 l (.mk k s l) else[]
def EJ:List Rx→List Pos
 | []=>[]
 | x :: l=>tv x++EJ l
def zM:List Rx→List Pos
 | []=>[]
 | x :: l=>(some x,l) :: ((tv x).map (Pos.on l)++zM l)
def G5:List Rx→Rx→List Pos
 | [],_=>[]
 | x :: _,r=>(some x,[r]) :: (tv x).map (Pos.on [r])
end
def NU (u:List Int)(e:Pos):List Rx:=(match e.1 with|some y=>cE (Dv y u)|none=>[])++e.2
theorem II (u:List Int)(R:List Rx)(e:Pos):NU u (Pos.on R e)=NU u e++R:=by unfold NU Pos.on;rw[abr]
theorem Cw (x:Rx):tv x=if x.kind=4 then EJ x.kids else if x.kind=3 then zM x.kids else if x.kind=5 then(none,[x]) :: G5 x.kids x else[]:=by cases x with|mk k s l=>rw[tv];rfl
theorem T3 (h:x.kind=4):tv x=EJ x.kids:=by rw[Cw,if_pos h]
theorem T4 (h:x.kind=3):tv x=zM x.kids:=by rw[Cw,if_neg adh,if_pos h]
theorem T5 (h:x.kind=5):tv x=(none,[x]) :: G5 x.kids x:=by rw[Cw,if_neg adh,if_neg adh,if_pos h]
mutual
theorem tw:∀ x:Rx,(tv x).length+1≤2*x.size
 | .mk k s l => by
   rw[tv,Rx.size];have h1:=EK l;have h2:=EL l;have h3:=NV l (.mk k s l);have h4:=du l;split
   · omega
   · split
     · omega
     · split
       · rw[aaE];omega
       · rw[aaL];omega
theorem EK:∀ l:List Rx,(EJ l).length≤2*Rx.aE l
 | []=>aaD _
 | x :: l => by
   rw[EJ,Rx.aE,aaM];have h1:=tw x;have h2:=EK l;omega
theorem EL:∀ l:List Rx,(zM l).length≤2*Rx.aE l
 | []=>aaD _
 | x :: l => by
   rw[zM,Rx.aE,aaE,aaM,aaA];have h1:=tw x;have h2:=EL l;omega
theorem NV:∀ (l:List Rx)(r:Rx),(G5 l r).length≤2*Rx.aE l
 | [],r=>aaD _
 | x :: l, r => by
   rw[G5,Rx.aE,aaE,aaA];have h1:=tw x;omega
end
theorem EM {e:Pos}:∀{l:List Rx}{x:Rx},x∈l→e∈tv x→e∈EJ l
 | y :: l, x, hx, he => by
   rw[EJ];rcases aa3.1 hx with rfl|hx
   · exact acx _ he
   · exact acs _ (EM hx he)
theorem EN {x:Rx}{R:List Rx}:∀pre:List Rx,(some x,R)∈zM (pre++x :: R)∧∀e∈tv x,Pos.on R e∈zM (pre++x :: R)
 | [] => by
   rw[abH,zM];exact⟨aaJ,fun e he=>aaW _ (acx _ (aa7.2 ⟨e,he,rfl⟩))⟩
 | y :: pre => by
   rw[acg,zM];have h:=EN (x:=x) (R:=R) pre;exact⟨aaW _ (acs _ h.1),fun e he=>aaW _ (acs _ (h.2 e he))⟩
theorem EO:∀ v:List Int,(iQ v).length=v.length+1
 | []=>rfl
 | a :: v=>by rw[iQ,aaE,EO v];rfl
theorem Cx:∀ {u v:List Int},u∈iQ v→u.length≤v.length
 | u,[],h=>by rw[iQ,aaY] at h;rw[h];exact aaD _
 | u, a :: v, h => by
   rw[iQ] at h;rcases aa3.1 h with rfl|h
   · exact aaD _
   · have:=Cx h;rw[aaE];omega
theorem oW {t u:List Int}:∀{v:List Int},t∈iQ u→u∈iQ v→t∈iQ v
 | [],h,h'=>by rw[iQ,aaY] at h';rw[h'] at h;exact h
 | a :: v, h, h' => by
   rw[iQ] at h' ⊢;rcases aa3.1 h' with rfl|h'
   · rw[iQ] at h;exact h
   · exact aaW _ (oW h h')
theorem uO:∀ {u v:List Int},u∈tq v→u∈iQ v
 | u,[],h=>by rw[tq] at h;cases h
 | u, a :: v, h => by
   rw[tq] at h;rw[iQ];rcases aa3.1 h with rfl|h
   · exact aaJ
   · exact aaW _ (uO h)
theorem yq {u:List Int}{T:List (List Rx)}{M:List Rx}(h:M∈cv x u T):M∈T∨M=cE (Dv x u):=by
 unfold cv at h;split at h
 ·exact .inl h
 ·exact(aa3.1 h).symm
theorem QD (h:Nf x):∀v L,L∈dP x v→∃e∈tv x,∃u∈iQ v,L=NU u e:=by
 induction h with
 | none=>intro v M h;rw[nv adj adj adj] at h;cases h
 | empty=>intro v M h;rw[nv adj adj adj] at h;cases h
 | set h=>intro v M h;rw[nv (by simp[Rx.kind]) (by simp[Rx.kind]) (by simp[Rx.kind])] at h;cases h
 | @seq l h2 hn hk ih =>
   intro v L h;rw[Cr rfl] at h;obtain⟨pre,y,R,e,u,hu,M,hM,rfl⟩:=iv.1 h;have e':l=pre++y :: R:=e;subst e';have hp:=EN (x:=y) (R:=R) pre;rw[T4 rfl];rcases yq hM with hM|hM
   · obtain ⟨p, hp', t, ht, rfl⟩ := ih y (by simp) u M hM
     exact⟨_,hp.2 p hp',t,oW ht hu,(II t R p).symm⟩
   · exact⟨_,hp.1,u,hu,by rw[hM];rfl⟩
 | @alt l h2 hn hk h4 h5 h6 ih =>
   intro v L h;rw[Cq rfl] at h;obtain⟨y,hy,h⟩:=j2.1 h;obtain⟨p,hp,t,ht,e⟩:=ih y hy v L h;rw[T3 rfl];exact⟨p,EM hy hp,t,ht,e⟩
 | @star y hn hk h4 ih =>
   intro v L h;rw[uM rfl] at h;rw[T5 rfl];rcases aa3.1 h with rfl|h
   · exact⟨_,aaJ,[],k9 v,rfl⟩
   · obtain ⟨u, hu, M, hM, rfl⟩ := mn.1 h
     have hu:=uO hu;show ∃e∈_ :: G5 [y] _,_;rw[G5];rcases yq hM with hM|hM
     · obtain ⟨p, hp', t, ht, rfl⟩ := ih u M hM
       exact⟨_,aaW _ (aaW _ (aa7.2 ⟨p,hp',rfl⟩)),t,oW ht hu,(II t _ p).symm⟩
     · exact⟨_,aaW _ aaJ,u,hu,by rw[hM];rfl⟩
theorem NW {α:Type}:∀{l m:List α},l.Pairwise (·≠·)→(∀x∈l,x∈m)→l.length≤m.length
 | [],m,_,_=>aaG _
 | x :: l, m, hp, h => by
   obtain⟨m1,m2,rfl⟩:=List.append_of_mem (h x aaJ);have hp':=abt.1 hp;have:=NW (l:=l) (m:=m1++m2) hp'.2 fun y hy=>by
     have h1:=h y (aaW _ hy);rcases abl.1 h1 with q|q
     · exact acx _ q
     · rcases aa3.1 q with q | q
       · exact absurd q.symm (hp'.1 y hy)
       · exact acs _ q
   rw[aaM] at this ⊢;rw[aaE,aaE];omega
theorem vL {α β:Type}{f:α→List β}{n:Nat}(hf:∀a,(f a).length=n):∀l:List α,(l.flatMap f).length=l.length*n
 | []=>by simp
 | a :: l=>by rw[abQ,aaM,hf,vL hf l,aaE,acY];omega
variable{v:List Int}
theorem Ky (hx:Nf x){LL:List (List Rx)}(hp:LL.Pairwise (·≠·))(h:∀L∈LL,L∈dP x v):LL.length≤2*x.size*(v.length+1):=by
 have h1:=NW hp (m:=(tv x).flatMap fun e=>(iQ v).map fun u=>NU u e) fun L hL=>by
  obtain⟨e,he,u,hu,e2⟩:=QD hx v L (h L hL);exact aca.2 ⟨e,he,aa7.2 ⟨u,hu,e2.symm⟩⟩
 rw[vL (n:=v.length+1) fun e=>by rw[aaA,EO]] at h1;have h2:=tw x;exact abb h1 (abR _ adh)
structure SA (x:Rx)(v:List Int)(t:Rx):Prop where
 nf:Nf t
 pr:∀a∈pr t,cE a∈dP x v
theorem si (hx:Nf x)(v:List Int):SA x v (Dv x v):=⟨AW hx v,(oU hx).all v⟩
theorem NX {a:Rx}(hx:Nf x)(ha:Nf a)(hk:a.kind=3∨a.kind=5)(hc:cE a∈dP x v)(b:Int):SA x (v++[b]) (dR b a):=by
 refine⟨rE b ha,fun c hca=>?_⟩;rcases Iz ha hk hca with h3|⟨z,h3,h4,h5⟩
 ·exact(oU hx).step v b _ _ hc h3
 ·exact(oU hx).exp _ z ((oU hx).step v b _ _ hc h3) h4 c h5
variable{b:Int}{i:Nat}
theorem VU (h:∀x∈l,Nf x)(hi:i<l.length):Nf (dQ b l i):=by
 refine kI fun z hz=>?_
 rcases aa3.1 hz with rfl|hz
 ·exact rE b (h _ (aS hi))
 ·rw[aaY.1 hz];exact kI fun u hu=>h u (abp hu)
theorem T6 {a:Rx}(hx:Nf x)(ha:Nf a)(hk:a.kind=3)(hc:cE a∈dP x v)(b:Int)(hi:i<a.kids.length):SA x (v++[b]) (dQ b a.kids i):=by
 obtain⟨e,h2,hn,hkk⟩:=ha.k3 hk;refine⟨VU hn hi,fun c hca=>?_⟩;have h3:=VO hi hn hkk (yi hca);have h4:cE (dQ b a.kids i)∈ri b (cE a):=by rw[iP hk,h3.1];exact Co hi h3.2
 rcases Nk hca with q|⟨q,q4,qc⟩
 ·rw[q];exact(oU hx).step v b _ _ hc h4
 ·rw[q] at h4;exact(oU hx).exp _ _ ((oU hx).step v b _ _ hc h4) q4 c qc
theorem NY {t:Rx}(ht:Nf t):(oM t).length≤(pr t).length+2:=by
 by_cases h4:t.kind=4
 · obtain ⟨e, h2, hn, hkk, hs, h22, _⟩ := ht.k4 h4
   have h5:∀l:List Rx,(l.filter fun a=>decide (3≤a.kind)).length+(l.filter fun a=>!decide (3≤a.kind)).length=l.length:=fun l=>by
     induction l with
     | nil=>rfl
     | cons y l ih =>
       by_cases q:3≤y.kind
       · rw[acP (by simp[q]),acy (by simp[q]),aaE,aaE];omega
       · rw[acy (by simp[q]),acP (by simp[q]),aaE,aaE];omega
   have h8:∀x∈t.kids.filter (fun x=>!decide (3≤x.kind)),x∈t.kids∧(x.kind=1∨x.kind=2):=fun x hx=>by
     have h9:=abA.1 hx;have h10:=(hn x h9.1).kinds;have h11:=(hkk x h9.1).1;have h12:¬3≤x.kind:=by simpa using h9.2
     exact⟨h9.1,adh⟩
   have h10:=Kx (p:=fun x=>x.kind=1) (q:=fun x=>x.kind=2) (l:=t.kids.filter fun x=>!decide (3≤x.kind)) ((ade (fun h=>h.2) hs).filter _) (fun x hx=>(h8 x hx).2)
     (fun x hx y hy h h'=>by rw[(hn x (h8 x hx).1).k1 h,(hn y (h8 y hy).1).k1 h']) fun x hx y hy h h'=>h22 x (h8 x hx).1 y (h8 y hy).1 h h'
   have h6:pr t=t.kids.filter fun a=>decide (3≤a.kind):=by unfold pr;rw[gS h4]
   rw[gS h4,h6,←h5 t.kids];omega
 · rw[jx h4];show 1≤_;omega
theorem Cy {t:Rx}(hx:Nf x)(h:SA x v t):(oM t).length≤2*x.size*(v.length+1)+2:=by
 have h1:=NY h.nf;have h2:=Ky hx (T1 h.nf) (v:=v) fun L hL=>by
  obtain⟨a,ha,rfl⟩:=aa7.1 hL;exact h.pr a ha
 rw[aaA] at h2;omega
theorem uP (h:Nf x):x.syms.length≤64:=by
 cases h with
 | set h=>exact Kv h
 | _=>exact aaG _
theorem Cz (h:Nf x):Dq x≤x.size:=by
 have hs:∀l:List Rx,(∀x∈l,Dq x≤x.size)→rk l≤Rx.aE l:=fun l hl=>by
   induction l with
   | nil=>exact aaD _
   | cons y l ih =>
     rw[nX,Rx.aE];have h1:=ih fun z hz=>hl z (aaW _ hz)
     have h2:=hl y aaJ;omega
 induction h with
 | none=>decide
 | empty=>decide
 | @set s h =>
   rw[Sx rfl,dY];have:=(jJ.1 h).1;omega
 | @seq l h2 hn hk ih=>rw[uN (.inl rfl),dY];have:=hs l ih;show rk l≤_;omega
 | @alt l h2 hn hk h4 h5 h6 ih=>rw[uN (.inr rfl),dY];have:=hs l ih;show rk l≤_;omega
 | @star y hn hk h4 ih=>rw[NR rfl,dY];have:=hs [y] (fun z hz=>by rw[aaY.1 hz];exact ih);show 1+rk [y]≤_;omega
theorem QE {t:Rx}(hx:Nf x)(h:SA x v t):(cE t).length≤x.size:=by
 by_cases k3:t.kind=3
 ·have h1:=yp hx v _ (h.pr t (la (.inl k3)));have:=Cz hx;omega
 ·by_cases k1:t.kind=1
  ·rw[mi k1];exact aaG _
  ·rw[ep k3 k1];exact size_pos x
theorem NZ (h:Nf x):∀v L f,L∈dP x v→f∈L→(∃y u,y.size<x.size∧Nf y∧u∈iQ v∧f=Dv y u)∨(x.kind=5∧f=x):=by
 have inner:∀{x y:Rx}{u v:List Int}{M:List Rx}{f:Rx},Nf y→y.size<x.size→u∈iQ v→(∀v L f,L∈dP y v→f∈L→(∃z u,z.size<y.size∧Nf z∧u∈iQ v∧f=Dv z u)∨(y.kind=5∧f=y))→M∈cv y u (dP y u)→f∈M →
     ∃z u,z.size<x.size∧Nf z∧u∈iQ v∧f=Dv z u:=fun{x y u v M f} hy hlt hu ih hM hf=>by
   have go:∀L,L∈dP y u→f∈L→∃z u,z.size<x.size∧Nf z∧u∈iQ v∧f=Dv z u:=fun L hL hf=>by
     rcases ih u L f hL hf with⟨z,t,h1,h2,h3,h4⟩|⟨_,h4⟩
     · exact⟨z,t,adh,h2,oW h3 hu,h4⟩
     · exact⟨y,[],hlt,hy,k9 v,by rw[GY];exact h4⟩
   rcases yq hM with hM|hM
   · exact go M hM hf
   · subst hM
     by_cases k3:(Dv y u).kind=3
     · exact go _ ((oU hy).all u _ (la (.inl k3))) hf
     · by_cases k1 : (Dv y u).kind = 1
       · rw[mi k1] at hf;cases hf
       · rw [ep k3 k1, aaY] at hf
         exact⟨y,u,hlt,hy,hu,hf⟩
 induction h with
 | none=>intro v M f h;rw[nv adj adj adj] at h;cases h
 | empty=>intro v M f h;rw[nv adj adj adj] at h;cases h
 | set h=>intro v M f h;rw[nv (by simp[Rx.kind]) (by simp[Rx.kind]) (by simp[Rx.kind])] at h;cases h
 | @seq l h2 hn hk ih =>
   intro v L f h hf;rw[Cr rfl] at h;obtain⟨pre,y,R,e,u,hu,M,hM,rfl⟩:=iv.1 h;have e':l=pre++y :: R:=e;have hy:y∈l:=by rw[e'];simp
   rcases abl.1 hf with hf|hf
   · exact .inl (inner (hn y hy) (dp (r:=.mk 3 [] l) hy) hu (ih y hy) hM hf)
   · have hf' : f ∈ l := by rw [e']; simp [hf]
     exact .inl ⟨f,[],dp (r:=.mk 3 [] l) hf',hn f hf',k9 v,rfl⟩
 | @alt l h2 hn hk h4 h5 h6 ih =>
   intro v L f h hf;rw[Cq rfl] at h;obtain⟨y,hy,h⟩:=j2.1 h;have hlt:=dp (r:=.mk 4 [] l) hy;rcases ih y hy v L f h hf with⟨z,t,h1,h2,h3,h4⟩|⟨_,h4⟩
   · exact .inl ⟨z,t,adh,h2,h3,h4⟩
   · exact .inl ⟨y,[],hlt,hn y hy,k9 v,by rw[GY];exact h4⟩
 | @star y hn hk h4 ih =>
   intro v L f h hf;rw[uM rfl] at h;have hlt:y.size<(Rx.mk 5 [] [y]).size:=dp (r:=.mk 5 [] [y]) aaJ;rcases aa3.1 h with rfl|h
   · exact .inr ⟨rfl,aaY.1 hf⟩
   · obtain ⟨u, hu, M, hM, rfl⟩ := mn.1 h
     rcases abl.1 hf with hf|hf
     · exact .inl (inner hn hlt (uO hu) ih hM hf)
     · exact .inr ⟨rfl,aaY.1 hf⟩
structure G6 (B:Nat)(m:List Rx):Prop where
 syms:(dg m).length≤B
 kids:(ee m).length≤B
 wide:∀x∈m,wd x≤B
inductive yr (B:Nat)(b:Int):Rx→Prop
 | mk {r:Rx}(h4:r.kind=4→G6 B (r.kids.map (dR b)))(h3:r.kind=3→G6 B (uJ b r.kids))(hs:r.kind=3∨r.kind=5→∀x∈r.kids,(cE (dR b x)).length≤B∧wd (dR b x)≤B)(hk:∀x,x∈r.kids→yr B b x):yr B b r
theorem yr.h4 {B:Nat}(h:yr B b r):r.kind=4→G6 B (r.kids.map (dR b)):=by cases h;assumption
theorem yr.h3 {B:Nat}(h:yr B b r):r.kind=3→G6 B (uJ b r.kids):=by cases h;assumption
theorem yr.hs {B:Nat}(h:yr B b r):r.kind=3∨r.kind=5→∀x∈r.kids,(cE (dR b x)).length≤B∧wd (dR b x)≤B:=by cases h;assumption
theorem yr.hk {B:Nat}(h:yr B b r):∀x,x∈r.kids→yr B b x:=by cases h;assumption
theorem CA (h:Nf x)(hk:x.kind≤2):wd x≤64:=by
 have hl:=uP h;have e:x.kids=[]:=by
  cases h with
  | none=>rfl
  | empty=>rfl
  | set h=>rfl
  | seq h1 h2 h3=>exact absurd hk (by show ¬(3:Int)≤2;decide)
  | alt h1 h2 h3 h4 h5 h6=>exact absurd hk (by show ¬(4:Int)≤2;decide)
  | star h1 h2 h3=>exact absurd hk (by show ¬(5:Int)≤2;decide)
 refine gW.2 ⟨⟨hl,by rw[e];exact aaG _⟩,fun y hy=>?_⟩;rw[e] at hy;cases hy
section
variable {S N K:Nat}(hK:2*S*(N+2)+66≤K)
include hK
theorem room_le {s n:Nat}(hs:s≤S)(hn:n≤N+1):2*s*(n+1)+2≤K:=by have h1:2*s*(n+1)≤2*S*(N+2):=Nat.mul_le_mul adh adh;omega
theorem QF:S+64≤K:=by have h1:2*S*2≤2*S*(N+2):=Nat.mul_le_mul_left _ adh;omega
theorem G7:∀ (n:Nat)(x:Rx),x.size≤n→Nf x→x.size≤S→∀v:List Int,v.length≤N+1→∀t,SA x v t→wd t≤K:=by
 intro n
 induction n with
 | zero=>intro x h;have:=size_pos x;omega
 | succ n ih =>
 intro x hn hx hS v hv t ht;have hSK:=QF hK;have fac:∀L f,L∈dP x v→f∈L→wd f≤K:=fun L f hL hf=>by
  rcases NZ hx v L f hL hf with⟨y,u,h1,h2,h3,h4⟩|⟨_,h4⟩
  ·rw[h4];have:=Cx h3;exact ih y adh h2 adh u adh _ (si h2 u)
  ·rw[h4];have:=IH x;omega
 have node:∀a,Nf a→(a.kind=3∨a.kind=5)→cE a∈dP x v→wd a≤K:=fun a ha hk hc=>by
  rcases hk with hk|hk
  ·obtain⟨e,h2,_⟩:=ha.k3 hk;have h3:=yp hx v _ hc;have h4:=Cz hx;rw[iP hk] at h3;refine gW.2 ⟨⟨by rw[e];exact aaG _,adh⟩,fun y hy=>fac _ y hc (by rw[iP hk];exact hy)⟩
  ·exact fac _ a hc (by rw[ep adh adh];exact aaJ)
 have hkk:=ht.nf.kinds;by_cases h4:t.kind=4
 ·obtain⟨e,h2,hnk,hk4,_⟩:=ht.nf.k4 h4;have h3:=Cy hx ht;have h5:=room_le hK hS hv;rw[gS h4] at h3;refine gW.2 ⟨⟨by rw[e];exact aaG _,adh⟩,fun y hy=>?_⟩;have hyk:=(hnk y hy).kinds;by_cases q:3≤y.kind
  ·have:=hk4 y hy;have hya:y∈pr t:=lM.2 ⟨by rw[gS h4];exact hy,q⟩;exact node y (hnk y hy) adh (ht.pr y hya)
  ·have:=CA (hnk y hy) adh;omega
 ·by_cases q:3≤t.kind
  ·exact node t ht.nf adh (ht.pr t (la adh))
  ·have:=CA ht.nf adh;omega
end
theorem A3 (x:Rx)(l:List Rx):aX (x :: l)=oM x++aX l:=rfl
theorem EP {n:Nat}:∀{m:List Rx},(∀x∈m,(oM x).length≤n)→(aX m).length≤m.length*n
 | [],_=>aaG _
 | x :: m, h => by
   rw[A3,aaM,aaE,acY];have h1:=EP (m:=m) fun y hy=>h y (aaW _ hy)
   have h2:=h x aaJ;omega
theorem N0 (m:List Rx):(ee m).length≤(aX m).length:=by unfold ee;rw[tl];exact abT _ _
theorem G8:∀ (l:List Rx)(s:List Int),(l.foldl oO s).length=s.length+(df l).length:=by
 have key:∀(l:List Rx)(s:List Int),l.foldl oO s=s++l.foldl oO []:=fun l=>by
   induction l with
   | nil=>intro s;simp
   | cons x l ih =>
     intro s;rw[acz,acz,ih,ih (oO [] x)];by_cases h:x.kind=2
     · rw[uD h,uD h,abr];rfl
     · rw[pS h,pS h];rfl
 intro l s;rw[key];exact aaM
theorem lN (l m:List Rx):(df (l++m)).length=(df l).length+(df m).length:=by show((l++m).foldl oO []).length=_;rw[ab2,G8];rfl
theorem yt:∀ {l:List Rx},(∀x∈l,x.kind≠2)→(df l).length=0
 | [],_=>rfl
 | x :: l, h => by
   rw[show x :: l=[x]++l from rfl,lN,yt fun y hy=>h y (aaW _ hy)];show(oO [] x).length+0=0;rw[pS (h x aaJ)];rfl
theorem uQ:∀ {l:List Rx},l.Pairwise (·≠·)→(∀x∈l,Nf x)→(∀x∈l,∀y∈l,x.kind=2→y.kind=2→x=y)→(df l).length≤64
 | [],_,_,_=>aaG _
 | x :: l, hp, hn, h2 => by
   have hp':=abt.1 hp;rw[show x :: l=[x]++l from rfl,lN];by_cases q:x.kind=2
   · rw [yt (l := l) fun y hy e => hp'.1 y hy (h2 x aaJ y (aaW _ hy) q e)]
     show(oO [] x).length+0≤64;rw[uD q];have:=uP (hn x aaJ);simpa using this
   · have h1 := uQ hp'.2 (fun y hy => hn y (aaW _ hy)) fun y hy z hz => h2 y (aaW _ hy) z (aaW _ hz)
     show(oO [] x).length+_≤64;rw[pS q];simpa using h1
theorem Kz {t:Rx}(h:Nf t):(df (oM t)).length≤64:=by
 by_cases h4:t.kind=4
 ·obtain⟨e,h2,hn,hkk,hs,h22,_⟩:=h.k4 h4;rw[gS h4];exact uQ (ade (fun h=>h.2) hs) hn h22
 ·rw[jx h4];exact uQ (aci _ _) (fun x hx=>by rw[aaY.1 hx];exact h) fun x hx y hy _ _=>by rw[aaY.1 hx,aaY.1 hy]
theorem ER:∀ {m:List Rx},(∀x∈m,Nf x)→(dg m).length≤m.length*64
 | [],_=>aaG _
 | x :: m, h => by
   show(df (oM x++aX m)).length≤_;rw[lN,aaE,acY];have h1:=ER (m:=m) fun y hy=>h y (aaW _ hy)
   have h2:=Kz (h x aaJ);have h3:(df (aX m)).length=(dg m).length:=rfl;omega
theorem CB (b:Int):∀l:List Rx,(uJ b l).length≤l.length
 | []=>by rw[uJ];exact aaG _
 | x :: l => by
   have h:=CB b l;rw[uJ];split<;>simp only[aaE,aaL]<;>omega
section
variable {S N K B:Nat}(hK:2*S*(N+2)+66≤K)(hB:K*K≤B)
include hK hB
theorem T7:K≤B∧K*64≤B:=by have h1:=QF hK;have h2:K*64≤K*K:=Nat.mul_le_mul_left _ adh;have h3:K*1≤K*64:=Nat.mul_le_mul_left _ adh;omega
theorem N1 (hx:Nf x)(hS:x.size≤S)(hv:v.length≤N+1){m:List Rx}(hm:m.length≤K)(h:∀y∈m,SA x v y∨(Nf y∧y.kind≤2)):G6 B m:=by
 have hKB:=T7 hK hB;have h0:=QF hK;have hn:∀y∈m,Nf y:=fun y hy=>by rcases h y hy with h|h;exact h.nf;exact h.1
 refine⟨?_,?_,fun y hy=>?_⟩
 ·have h1:=ER hn;have h2:m.length*64≤K*64:=abR _ hm;omega
 ·have h1:=EP (m:=m) (n:=K) fun y hy=>by
   rcases h y hy with q|q
   ·exact abb (Cy hx q) (room_le hK hS hv)
   ·rw[jx adh];show 1≤K;omega
  have h2:=N0 m;have h3:m.length*K≤K*K:=abR _ hm;omega
 ·rcases h y hy with q|q
  ·have:=G7 hK _ x (aaD _) hx hS v hv y q;omega
  ·have:=CA q.1 q.2;omega
theorem QG (b:Int):∀(n:Nat)(x:Rx),x.size≤n→Nf x→x.size≤S→∀v:List Int,v.length≤N→∀t,SA x v t→yr B b t:=by
 intro n
 induction n with
 | zero=>intro x h;have:=size_pos x;omega
 | succ n ih =>
 intro x hn hx hS v hv t ht;have hSK:=QF hK;have hKB:=T7 hK hB;have facF:∀y u,Nf y→y.size≤S→u.length≤N→(cE (dR b (Dv y u))).length≤B∧wd (dR b (Dv y u))≤B:=fun y u hy hyS hu=>by
   rw[←qT];have h1:=QE hy (si hy (u++[b]));have h2:=G7 hK _ y (aaD _) hy hyS (u++[b]) (by simp;omega) _ (si hy (u++[b]));exact⟨adh,adh⟩
 have self:x.kind=5→yr B b x:=fun h5=>by
   obtain⟨y,e,hy,_⟩:=hx.k5 h5;have hlt:y.size<x.size:=by rw[e];exact dp (r:=.mk 5 [] [y]) aaJ
   have hm:∀z∈x.kids,z=y:=fun z hz=>by rw[e] at hz;exact aaY.1 hz
   refine .mk (fun q=>by omega) (fun q=>by omega) (fun _ z hz=>?_) fun z hz=>?_
   · rw[hm z hz];exact facF y [] hy adh (aaG _)
   · rw[hm z hz];exact ih y adh hy adh [] (aaG _) y (si hy [])
 have fac:∀L f,L∈dP x v→f∈L→yr B b f∧(cE (dR b f)).length≤B∧wd (dR b f)≤B:=fun L f hL hf=>by
   rcases NZ hx v L f hL hf with⟨y,u,h1,h2,h3,h4⟩|⟨h5,h4⟩
   · rw [h4]
     have:=Cx h3;exact⟨ih y adh h2 adh u adh _ (si h2 u),facF y u h2 adh adh⟩
   · rw[h4];exact⟨self h5,facF x [] hx hS (aaG _)⟩
 have node:∀a,Nf a→(a.kind=3∨a.kind=5)→cE a∈dP x v→yr B b a:=fun a ha hk hc=>by
   rcases hk with hk|hk
   · obtain ⟨e, h2, hnk, _⟩ := ha.k3 hk
     have h3:=yp hx v _ hc;have h4:=Cz hx;rw[iP hk] at h3;have hf:∀y∈a.kids,yr B b y∧(cE (dR b y)).length≤B∧wd (dR b y)≤B:=fun y hy=>fac _ y hc (by rw[iP hk];exact hy)
     refine .mk (fun q=>by omega) (fun _=>?_) (fun _ z hz=>(hf z hz).2) fun z hz=>(hf z hz).1
     refine N1 hK hB hx hS (v:=v++[b]) (by simp;omega) (by have:=CB b a.kids;omega) fun y hy=>?_
     obtain⟨i,hi,rfl⟩:=tn hy;exact .inl (T6 hx ha hk hc b hi)
   · exact(fac _ a hc (by rw[ep adh adh];exact aaJ)).1
 have low:∀y,Nf y→y.kind≤2→yr B b y:=fun y hy hk=>by
   have e:y.kids=[]:=by
     have h1:=CA hy hk;cases hy with
     | none=>rfl
     | empty=>rfl
     | set h=>rfl
     | seq h1 h2 h3=>exact absurd hk (by show ¬(3:Int)≤2;decide)
     | alt h1 h2 h3 h4 h5 h6=>exact absurd hk (by show ¬(4:Int)≤2;decide)
     | star h1 h2 h3=>exact absurd hk (by show ¬(5:Int)≤2;decide)
   exact .mk (fun q=>by omega) (fun q=>by omega) (fun q=>by omega) fun z hz=>by rw[e] at hz;cases hz
 have hkk:=ht.nf.kinds;by_cases h4:t.kind=4
 · obtain ⟨e, h2, hnk, hk4, _⟩ := ht.nf.k4 h4
   have h3:=Cy hx ht;have h5:=room_le hK hS (n:=v.length) adh;rw[gS h4] at h3;have hcs:∀y∈t.kids,y.kind≤2∨((y.kind=3∨y.kind=5)∧cE y∈dP x v):=fun y hy=>by
     have hyk:=(hnk y hy).kinds;by_cases q:3≤y.kind
     · have := hk4 y hy
       exact .inr ⟨adh,ht.pr y (lM.2 ⟨by rw[gS h4];exact hy,q⟩)⟩
     · exact .inl adh
   refine .mk (fun _=>?_) (fun q=>by omega) (fun q=>by omega) fun y hy=>?_
   · refine N1 hK hB hx hS (v := v ++ [b]) (by simp; omega) (by rw [aaA]; omega) fun z hz => ?_
     obtain⟨y,hy,rfl⟩:=aa7.1 hz;rcases hcs y hy with q|q
     · refine .inr ⟨rE b (hnk y hy), ?_⟩
       have hyk:=(hnk y hy).kinds;rw[yf];by_cases q2:y.kind=2
       · rw[if_pos q2];split<;>decide
       · rw[if_neg q2,if_neg adh,if_neg adh,if_neg adh];decide
     · exact .inl (NX hx (hnk y hy) q.1 q.2 b)
   · rcases hcs y hy with q | q
     · exact low y (hnk y hy) q
     · exact node y (hnk y hy) q.1 q.2
 · by_cases q : 3 ≤ t.kind
   · exact node t ht.nf adh (ht.pr t (la adh))
   · exact low t ht.nf adh
theorem IJ (b:Int)(hx:Nf x)(hS:x.size≤S)(hv:v.length≤N):wd (Dv x v)≤B∧yr B b (Dv x v):=by have h1:=G7 hK _ x (aaD _) hx hS v adh _ (si hx v);have h2:=T7 hK hB;exact⟨adh,QG hK hB b _ x (aaD _) hx hS v hv _ (si hx v)⟩
end
theorem yu (l:List Rx)(i:Nat):aX l=aX (l.take i)++aX (l.drop i):=by unfold aX;rw[←acp,abU]
theorem A4 (l m:List Rx):(df l).length≤(df (l++m)).length:=by rw[lN];omega
theorem A5 (l m:List Rx):(fe l).length≤(fe (l++m)).length:=by rw[tl,tl,abG,aaM];omega
theorem QH (l:List Rx)(i:Nat):(df (aX (l.take i))).length≤(dg l).length∧(fe (aX (l.take i))).length≤(ee l).length:=by unfold dg ee;rw[yu l i];exact⟨A4 _ _,A5 _ _⟩
theorem N2 (l:List Rx)(hi:i<l.length)(h4:(l.getD i default).kind=4)(j:Nat) :
  (df (aX (l.take i)++(l.getD i default).kids.take j)).length≤(dg l).length∧(fe (aX (l.take i)++(l.getD i default).kids.take j)).length≤(ee l).length:=by
 unfold dg ee;have e:aX l=(aX (l.take i)++(l.getD i default).kids.take j)++((l.getD i default).kids.drop j++aX (l.drop (i+1))):=by
  rw[yu l i,drop_cons hi,A3,gS h4,abr]
  conv=>lhs;rw[←abU j (l.getD i default).kids,abr]
 rw[e];exact⟨A4 _ _,A5 _ _⟩
theorem N3 (s:List Int)(k:List Rx):(j8 s k).length≤k.length+1:=by
 unfold j8;split
 ·rw[aaM];exact aaD _
 ·omega
theorem QI {B:Nat}(hS:(dg l).length≤B)(hw:∀x∈l,wd x≤B):∀z∈j8 (dg l) (ee l),wd z≤B:=fun z hz=>by
 rcases gC.1 hz with h|⟨h0,h⟩
 ·obtain⟨y,hy,hm⟩:=pW.1 (iq.1 h).1;by_cases h4:y.kind=4
  ·rw[gS h4] at hm;exact iy (hw y hy) hm
  ·rw[jx h4,aaY] at hm;rw[hm];exact hw y hy
 ·rw[h];refine gW.2 ⟨⟨?_,aaG _⟩,fun x hx=>by cases hx⟩;show(sJ PM (jH (dg l))).length≤B;have h1:=wL (eq:=PM) (l:=jH (dg l));rw[qM] at h1;omega
theorem G9 (l:List Rx)(i:Nat):ez l=ez (l.take i)++ez (l.drop i):=by unfold ez;rw[←acp,abU]
theorem N4 {B:Nat}(h:(ez l).length≤B)(hw:∀x∈l,wd x≤B):∀i,i<l.length→(ez (l.take i)).length+(l.getD i default).kids.length+1≤B+B+1:=fun i hi=>by have h1:=(gW.1 (hw _ (aS hi))).1.2;rw[G9 l i,aaM] at h;omega
theorem zN (l:List Rx)(hl:∀x∈l,Nf x):(cE (c4 l)).length≤(ez l).length+1:=by
 by_cases h0:(c4 l).kind=0
 ·rw[ep adh adh];exact Nat.le_add_left _ _
 ·rw[qU hl h0];omega
theorem QJ {B:Nat}(h:(ez l).length≤B)(hw:∀x∈l,wd x≤B):wd (c4 l)≤B:=by
 have hm:∀y∈ez l,wd y≤B:=fun y hy=>by
  obtain⟨x,hx,hy⟩:=aca.1 hy;by_cases h3:x.kind=3
  ·rw[iP h3] at hy;exact iy (hw x hx) hy
  ·by_cases h1:x.kind=1
   ·rw[mi h1] at hy;cases hy
   ·rw[ep h3 h1,aaY] at hy;rw[hy];exact hw x hx
 unfold c4 xV;split
 ·exact gW.2 ⟨⟨aaG _,aaG _⟩,fun x hx=>by cases hx⟩
 ·split
  ·exact gW.2 ⟨⟨aaG _,aaG _⟩,fun x hx=>by cases hx⟩
  ·split
   ·next h1=>exact hm _ (aS adh)
   ·exact gW.2 ⟨⟨aaG _,h⟩,hm⟩
theorem uR (h:Nf r)(h3:r.kind=3)(i:Nat):ez (r.kids.drop i)=r.kids.drop i:=nU fun x hx=>((h.k3 h3).2.2.2 x (abp hx)).2
end Go.Wb
namespace Go.Am
open Go.RowKit
section
variable {P:Program} {w0:Fr}{M0:Nat→Prop}{s s':St}{id u t:Nat}{e:TypeId}{xs:List AV}{cs:List Cell}{E:Env}{a:Act}{w:World}
theorem ba.VV (u:Nat)(h:ba P w0 M0 E s a w)(hnd:Nodup s.s=true)(ae:∀b,M0 b→b<w0.w.heap.size)(hl:s.o.lookup id=some (.arr e xs))(hu:u≠id) :
  ∃E':Env,E'.cur u=E.cur id∧E'.blk=E.blk∧ba P w0 M0 E' { n:=s.n,s:=s.s.filter (fun p=>p.2.stays true u&&p.2.stays true id),o:=ins u (.arr e xs) (ig id (iV (fun d=>d.stays true u&&d.stays true id) s.o)) } a w:=by
 obtain⟨vals,g1,g2,g3⟩:=h.wok.objs id _ hl;obtain⟨E',e1,e2,e3,e5⟩:∃E':Env,E'.cur u=E.cur id∧(∀i,i≠u→E'.cur i=E.cur i)∧E'.blk=E.blk∧E'.sub=E.sub :=
  ⟨{ E with cur:=fun i=>if i=u then E.cur id else E.cur i },if_pos rfl,fun i hi=>if_neg hi,rfl,rfl⟩
 have hN:∀i q,(if i=u then some (some (Ob.arr e xs)) else if i=id then some none else none:Option (Option Ob))=some q→(i=u∧q=some (.arr e xs))∨(i=id∧q=none):=fun i q hq=>by
  by_cases h1:i=u
  ·rw[if_pos h1] at hq;injection hq with hq;exact .inl ⟨h1,hq.symm⟩
  ·rw[if_neg h1] at hq;by_cases h2:i=id
   ·rw[if_pos h2] at hq;injection hq with hq;exact .inr ⟨h2,hq.symm⟩
   ·rw[if_neg h2] at hq;cases hq
 refine⟨E',e1,e3,?_⟩;refine ba.xo (E':=E') (fun d=>d.stays true u&&d.stays true id) (fun i=>if i=u then some (some (.arr e xs)) else if i=id then some none else none) _ (fun i=>?_) (fun d=>rfl) (fun i ob hq hx=>?_) (fun i hq=>?_) h hnd ae (fun i hq=>?_) (fun x hx=>by rw[e3]) none ⟨rfl,rfl,rfl,aaD _,fun _ _ _=>rfl⟩ (fun _=>aaD _) (fun g hg=>by cases hg) (fun i ob b hq hb=>.inl ?_) (fun i ob i' ob' b hq hq' hb hb'=>?_) (fun rep sv lents i ob hq=>?_)
 ·rw[aC];by_cases q1:i=u
  ·rw[if_pos q1,if_pos q1]
  ·rw[if_neg q1,if_neg q1,dj];by_cases q2:i=id
   ·rw[if_pos q2,if_pos q2]
   ·rw[if_neg q2,if_neg q2];exact gm _ i s.o
 ·rcases hN i _ hq with⟨rfl,_⟩|⟨_,q⟩
  ·obtain⟨d,q1,q2⟩:=hx;rw[ic q1] at q2;cases q2
  ·cases q
 ·rcases hN i _ hq with⟨_,q⟩|⟨rfl,_⟩
  ·cases q
  ·exact⟨e2 i (abN hu),by rw[e3]⟩
 ·have hit:i≠u:=fun q=>by rw[if_pos q] at hq;cases hq
  exact⟨e2 i hit,by rw[e3],by rw[e5]⟩
 ·rcases hN i _ hq with⟨rfl,q⟩|⟨_,q⟩
  ·injection q with q;subst q;refine⟨id,_,by rw[if_neg (abN hu),if_pos J];simp,hl,?_⟩;simpa only[bG,e1] using hb
  ·cases q
 ·rcases hN i _ hq with⟨rfl,_⟩|⟨_,q⟩
  ·rcases hN i' _ hq' with⟨rfl,_⟩|⟨_,q⟩
   ·rfl
   ·cases q
  ·cases q
 ·rcases hN i _ hq with⟨rfl,q⟩|⟨_,q⟩
  ·injection q with q;subst q;exact⟨vals,by rw[e1];exact g1,g2,fun j d hd=>⟨(g3 j d hd).1,rep .pl _ _ (g3 j d hd).2 (by simp)⟩⟩
  ·cases q
theorem jK (b j u:Nat){eb:TypeId}{bs bs':List SV}(ae:∀b,M0 b→b<w0.w.heap.size)(hnd:Nodup s.s=true)(hb0:s.o.lookup b=some (.box eb bs))(hj:bs[j]?=some (.own id))(hl:s.o.lookup id=some (.arr e xs))(hne:Nat.beq u id=false)(hbu:Nat.beq b u=false)
  (hb:(ins u (Ob.arr e xs) (ig id (iV (fun d=>d.stays true u&&d.stays true id) s.o))).lookup b=some (.box eb bs'))(hbl:bs'.length=bs.length)
  (hnd':Nodup (s.s.filter (fun p=>p.2.stays true u&&p.2.stays true id))=true) :
  fm P w0 M0 s (({ n:=s.n,s:=s.s.filter (fun p=>p.2.stays true u&&p.2.stays true id),o:=ins u (.arr e xs) (ig id (iV (fun d=>d.stays true u&&d.stays true id) s.o)) }:St).cK false b (.box eb ((de b bs').set j (.own u)))):=by
 rintro a w ⟨E,hs⟩;obtain⟨vals0,q1,q2,q3,q4⟩:=hs.wok.objs b _ hb0;have hv:vals0.getD j undef=E.cur id:=(q4 j _ hj).2.2 e xs hl;obtain⟨E',hc,hbk,h1⟩:=hs.VV u hnd ae hl (fun q=>by rw[q,acC] at hne;cases hne);have hnu:b≠u:=fun q=>by rw[q,acC] at hbu;cases hbu
 refine⟨E',h1.cK false (fun _=>⟨rfl,.inr (.inl ⟨eb,bs',_,hb,rfl⟩)⟩) hnd' ae (fun i hi=>⟨rfl,rfl⟩) (.inr J) none ⟨rfl,rfl,rfl,aaD _,fun _ _ _=>rfl⟩ (fun _=>aaD _) (fun g hg=>by cases hg) (fun b' hb'=>.inl ⟨_,hb,hb'⟩) (fun rep sv=>?_)⟩;obtain⟨vals,g1,g2,g3,g4⟩:=h1.wok.objs b _ hb;have hvv:vals=vals0:=by
  rw[hbk,q1] at g1;simp only[aaB,Obj.cells.injEq] at g1;have:=g1.1;simpa using this.symm
 subst hvv;refine⟨vals,g1,g2,by simpa[de] using g3,fun i d hd=>?_⟩;by_cases hi:j=i
 ·subst hi;have hjl:j<bs'.length:=by rw[hbl];exact(aa0.1 hj).1
  rw[ab9 (by simpa[de] using hjl)] at hd;simp only[aaB] at hd;subst hd;have h0:=q4 j _ hj;exact⟨rfl,h0.2.1,fun e1 c1 hh=>by rw[hc];exact hv⟩
 ·rw[ace hi] at hd;simp only[de,aaI,aaH] at hd;obtain⟨d0,hd0,rfl⟩:=hd;have:=g4 i d0 hd0;split
  ·exact⟨this.1,this.2.1,sv _ _ this.2.2 ‹_›⟩
  ·exact⟨rfl,this.2.1,trivial⟩
end
variable{f n v:Nat}{r r' r'':AV}
section
variable {P:Program} {w0:Fr}{M0:Nat→Prop}
def QK (P : Program) (f : FuncId) (n t : Nat) (T : TypeId) (k u v : Nat) (c : Code) : Prop := ∃ fn, P.funcs[f]? = some fn ∧ fn.body = some c ∧ fn.ntmps = n ∧ fn.results = #[.cell t T, .tmp u, .tmp v] ∧ (fn.name == "runtime.NumGoroutine") = false ∧ bo P T = some true ∧ bX P T = some k
theorem QK.bu {t k u:Nat}{T:TypeId}{c:Code}(h:QK P f n t T k u v c):cq P f:=by obtain⟨fn,h1,h2,_,_,h5,_⟩:=h;exact⟨fn,h1,h5,by rw[h2];rfl⟩
def SB (t k u v:Nat)(r r' r'':AV):Exit→St→Prop
 | .normal,s|.ret,s=>(∃q,((s.s.lookup t).bind (r7 s.o k)).bind (bT s.o)=some q∧q.data=r)∧(∃q,(s.s.lookup u).bind (bT s.o)=some q∧q.data=r')∧(∃q,(s.s.lookup v).bind (bT s.o)=some q∧q.data=r'')
 | _,_=>False
theorem three {w:World}{M:Nat→Prop}{a b c:Value}(h1:bL w M a r)(h2:bL w M b r')(h3:bL w M c r''):bL w M (.tuple #[a,b,c]) (.tup [r,r',r'']) :=
 .tup [a,b,c] [r,r',r''] rfl (fun j d hd=>by
  match j,hd with
  | 0,hd=>simp at hd;subst hd;exact h1
  | 1,hd=>simp at hd;subst hd;exact h2
  | 2,hd=>simp at hd;subst hd;exact h3
  | j+3,hd=>simp at hd)
theorem wm {t k u:Nat}{T:TypeId}{c:Code}(hf:QK P f n t T k u v c){ds:List AV}(hn:ds.length≤n)
   (h:∀(w0:Fr)(M0:Nat→Prop),(∀b,M0 b→b<w0.w.heap.size)→aw P w0 M0 c (St.enter n .pl ds) (SB t k u v r r' r'')):aV P f ds (.p (.tup [r,r',r''])):=by
 refine⟨hf.bu,fun w M vs hM hv hr=>?_⟩;have h0:=h (Fr.all w) M hM;rw[e7] at h0;obtain⟨fn,h1,h2,h3,h4,h5,h6,h7⟩:=hf;refine(dz h1 h2 h3 (R:=fun z E' s' w'=>Below w.heap.size w w'∧iN P w' M (fun b=>b<w.heap.size) z (.p (.tup [r,r',r'']))) (by simpa using hn) vs (by simpa using hv) jO (fun j d hd=>?_) h0 (fun e s' a' w' E' hq hs=>?_)).mono fun e w' ⟨v,E',s',he,hR⟩=>⟨v,he,hR⟩
 · rw [aaI, aaH] at hd
   obtain⟨a,ha,rfl⟩:=hd;have:=hr j a ha;exact this.cm (fun b hb=>Or.elim hb id (fun h=>by rw[ew] at h;exact h.elim))
 · have fin : ((∃ q, ((s'.s.lookup t).bind (r7 s'.o k)).bind (bT s'.o) = some q ∧ q.data = r) ∧ (∃ q, (s'.s.lookup u).bind (bT s'.o) = some q ∧ q.data = r') ∧ (∃ q, (s'.s.lookup v).bind (bT s'.o) = some q ∧ q.data = r'')) →
       ∃z,(results fn a'.tmps).run P w'=.ok z w'∧Below w.heap.size w w'∧iN P w' M (fun b=>b<w.heap.size) z (.p (.tup [r,r',r''])):=by
     rintro⟨⟨q1,hb,hd1⟩,⟨q2,hu,hd2⟩,⟨q3,hv3,hd3⟩⟩;rw[abE] at hb;obtain⟨sv',hb,hret⟩:=hb;rw[abE] at hb;obtain⟨sv,hl,hb⟩:=hb;rw[abE] at hu;obtain⟨su,hlu,hretu⟩:=hu;rw[abE] at hv3;obtain⟨s3,hl3,hret3⟩:=hv3;obtain⟨z,g1,g2⟩:=iG h6 h7 hs.wok (hs.slots t sv hl).2 hb;have r1:=(ei hs.wok g2 hret).rep (fun b hb=>hM b hb);have r2:=(ei hs.wok (hs.slots u su hlu).2 hretu).rep (fun b hb=>hM b hb);have r3:=(ei hs.wok (hs.slots v s3 hl3).2 hret3).rep (fun b hb=>hM b hb);rw[hd1] at r1;rw[hd2] at r2;rw[hd3] at r3;refine⟨.tuple #[z,a'.tmps.getD u undef,a'.tmps.getD v undef],?_,hs.wok.below.below,three r1 r2 r3⟩;have g1':((Sem.run P (asAddr (a'.tmps[t]?.getD undef)) w').andThen fun x w=>Sem.run P (loadVar T x) w)=.ok z w':=by simpa using g1
     simp[results,h4,Sem.run_bind];revert g1';cases Sem.run P (asAddr (a'.tmps[t]?.getD undef)) w' with
     | ok a w2=>intro g;simp only[Result.andThen_ok] at g ⊢;rw[g];rfl
     | _=>intro g;exact absurd g (by simp[Result.andThen])
   cases e with
   | normal=>exact⟨.inl rfl,fin hq⟩
   | ret=>exact⟨.inr rfl,fin hq⟩
   | exit _=>exact hq.elim
   | goto _=>exact hq.elim
   | panic _=>exact hq.elim
   | outgrown=>exact hq.elim
theorem uS {t k u:Nat}{s:St}{q q' q'':RV}(h:((s.s.lookup t).bind (r7 s.o k)).bind (bT s.o)=some q)(h':(s.s.lookup u).bind (bT s.o)=some q')(h'':(s.s.lookup v).bind (bT s.o)=some q'')(e:q.data=r∧q'.data=r'∧q''.data=r''):SB t k u v r r' r'' .ret s:=⟨⟨q,h,e.1⟩,⟨q',h',e.2.1⟩,⟨q'',h'',e.2.2⟩⟩
def SC (t u k v:Nat)(r r' r'':AV):Exit→St→Prop
 | .normal,s|.ret,s=>(∃q,(s.s.lookup t).bind (bT s.o)=some q∧q.data=r)∧(∃q,((s.s.lookup u).bind (r7 s.o k)).bind (bT s.o)=some q∧q.data=r')∧(∃q,(s.s.lookup v).bind (bT s.o)=some q∧q.data=r'')
 | _,_=>False
theorem pn {t u k:Nat}{T:TypeId}{c:Code}(hf:Qc P f n t u T k v c){ds:List AV}(hn:ds.length≤n)
   (h:∀(w0:Fr)(M0:Nat→Prop),(∀b,M0 b→b<w0.w.heap.size)→aw P w0 M0 c (St.enter n .pl ds) (SC t u k v r r' r'')):aV P f ds (.p (.tup [r,r',r''])):=by
 refine⟨hf.bu,fun w M vs hM hv hr=>?_⟩;have h0:=h (Fr.all w) M hM;rw[e7] at h0;obtain⟨fn,h1,h2,h3,h4,h5,h6,h7⟩:=hf;refine(dz h1 h2 h3 (R:=fun z E' s' w'=>Below w.heap.size w w'∧iN P w' M (fun b=>b<w.heap.size) z (.p (.tup [r,r',r'']))) (by simpa using hn) vs (by simpa using hv) jO (fun j d hd=>?_) h0 (fun e s' a' w' E' hq hs=>?_)).mono fun e w' ⟨v,E',s',he,hR⟩=>⟨v,he,hR⟩
 · rw [aaI, aaH] at hd
   obtain⟨a,ha,rfl⟩:=hd;have:=hr j a ha;exact this.cm (fun b hb=>Or.elim hb id (fun h=>by rw[ew] at h;exact h.elim))
 · have fin : ((∃ q, (s'.s.lookup t).bind (bT s'.o) = some q ∧ q.data = r) ∧ (∃ q, ((s'.s.lookup u).bind (r7 s'.o k)).bind (bT s'.o) = some q ∧ q.data = r') ∧ (∃ q, (s'.s.lookup v).bind (bT s'.o) = some q ∧ q.data = r'')) →
       ∃z,(results fn a'.tmps).run P w'=.ok z w'∧Below w.heap.size w w'∧iN P w' M (fun b=>b<w.heap.size) z (.p (.tup [r,r',r''])):=by
     rintro⟨⟨q2,hu,hd2⟩,⟨q1,hb,hd1⟩,⟨q3,hv3,hd3⟩⟩;rw[abE] at hb;obtain⟨sv',hb,hret⟩:=hb;rw[abE] at hb;obtain⟨sv,hl,hb⟩:=hb;rw[abE] at hu;obtain⟨su,hlu,hretu⟩:=hu;rw[abE] at hv3;obtain⟨s3,hl3,hret3⟩:=hv3;obtain⟨z,g1,g2⟩:=iG h6 h7 hs.wok (hs.slots u sv hl).2 hb;have r1:=(ei hs.wok g2 hret).rep (fun b hb=>hM b hb);have r2:=(ei hs.wok (hs.slots t su hlu).2 hretu).rep (fun b hb=>hM b hb);have r3:=(ei hs.wok (hs.slots v s3 hl3).2 hret3).rep (fun b hb=>hM b hb);rw[hd1] at r1;rw[hd2] at r2;rw[hd3] at r3;refine⟨.tuple #[a'.tmps.getD t undef,z,a'.tmps.getD v undef],?_,hs.wok.below.below,three r2 r1 r3⟩;have g1':((Sem.run P (asAddr (a'.tmps[u]?.getD undef)) w').andThen fun x w=>Sem.run P (loadVar T x) w)=.ok z w':=by simpa using g1
     simp[results,h4,Sem.run_bind];revert g1';cases Sem.run P (asAddr (a'.tmps[u]?.getD undef)) w' with
     | ok a w2=>intro g;simp only[Result.andThen_ok] at g ⊢;rw[g];rfl
     | _=>intro g;exact absurd g (by simp[Result.andThen])
   cases e with
   | normal=>exact⟨.inl rfl,fin hq⟩
   | ret=>exact⟨.inr rfl,fin hq⟩
   | exit _=>exact hq.elim
   | goto _=>exact hq.elim
   | panic _=>exact hq.elim
   | outgrown=>exact hq.elim
theorem lZ {t u k:Nat}{s:St}{q q' q'':RV}(h:(s.s.lookup t).bind (bT s.o)=some q)(h':((s.s.lookup u).bind (r7 s.o k)).bind (bT s.o)=some q')(h'':(s.s.lookup v).bind (bT s.o)=some q'')(e:q.data=r∧q'.data=r'∧q''.data=r''):SC t u k v r r' r'' .ret s:=⟨⟨q,h,e.1⟩,⟨q',h',e.2.1⟩,⟨q'',h'',e.2.2⟩⟩
end
open Go.Sort Go.Proofs
structure N5 (P:Program)(f:FuncId):Prop where
 bu:cq P f
 none:∀(p:Option Addr)(cap:Nat)(fv:Value)(w:World),Calls P f #[.slice p 0 cap,fv] w fun e w'=>e=.returned (.tuple #[])∧w'=w
 some:∀{α:Type} [Inhabited α](enc:α→Value)(h1:OneCell enc)(cf:α→α→Int)(hO:SWO (ltOf cf))(g:Nat)(cb:Array Value)(blk off cap:Nat)(d:Array α)(w:World)
  (eg:∀args w,(callFunc g args).run P w=.ok (.enter g args) w)(hcmp:CmpLays1 P g cb enc cf blk off d.size w)(hH:Holds enc w blk off d)(hblk:blk<w.heap.size)(hsz:d.size<4611686018427387904),
  Calls P f #[.slice (.some ⟨blk,off,.none⟩) d.size cap,.func (.func g) #[] cb] w fun e w' =>
   e=.returned (.tuple #[])∧∃d' n os,PermIn 0 d.size d d'∧SortedIn (ltOf cf) 0 d.size d'∧w'=sortWorld enc w blk off n d' os
section
variable {P:Program} {w0:Fr}{M0:Nat→Prop}
variable {o:Oper} {s:St}{x y:Operand}{T T' e:TypeId}{c:fX}{id t k:Nat}
theorem Ha {β:Type} {f0:β→AV} {cf:β→β→Int} {p:β→Prop} {l:List β} {f g:FuncId} {caps:List AV} {ats:Array TypeId} (hS:N5 P f) (ho:o.op=.call { callee:=.value (.func f),args:=#[x,y],argTypes:=ats }) (hd:o.dst=some t) (hn:Nat.blt t s.n=true)
   (hnd:Nodup s.s=true)(hx:s.ev x=some (.own id))(hl:s.o.lookup id=some (.arr e (l.map f0)))(hy:s.ev y=some (.v .pl (.clo g caps)))(hk:bX P e=some 1)(hlf:∀z,AV.leaf (f0 z)=true)(hp:∀z∈l,p z)
   (hc:∀a b:β,p a→p b→au P g ([f0 a,f0 b]++caps) (.p (int (cf a b))))(hg:cq P g)(hirr:∀a,p a→¬cf a a<0)(htr:∀a b c,p a→p b→p c→cf a b<0→cf b c<0→cf a c<0)
   (htot:∀a b,p a→p b→¬cf a b<0→¬cf b a<0→a=b)(hsz:l.length<4611686018427387904)(ae:∀b,M0 b→b<w0.w.heap.size) :
   Step P w0 M0 o s ((s.cK false id (.arr e ((l.mergeSort fun x y=>!decide (cf y x<0)).map f0))).put t (.v .pl (.tup []))):=by
 rintro a w Q ⟨E,hs⟩;have hxv:=hs.ev hx _ _ hl;have hyv:bL w (cI M0 (owned E s.o) .pl) (a.eval y) (.clo g caps):=hs.ev hy;have hob:=hs.wok.objs id _ hl;obtain⟨vals,⟨hown,hownF⟩,hcl,hrp⟩:=hob;have hck:=cQ hk;have hxl:(l.map f0).length=l.length:=by simp
 have hvlen:vals.length=l.length:=by have:=hown.1;rw[hck] at this;simpa using this
 have hfla:flat (l.map f0)=l.map f0:=jF fun x hx=>by obtain⟨z,_,rfl⟩:=aa7.1 hx;exact hlf z
 have hrepx:∀i (hi:i<l.length),bL w (cI M0 (owned E s.o) .pl) (vals.getD i undef) (f0 l[i]):=fun i hi =>
   (hrp i (f0 l[i]) (by rw[hfla,aaI,aaF hi];rfl)).2
 generalize hq:a.eval y=q at hyv;cases hyv with
 | clo _ cb _ hnc hr =>
   have hrun:(execOp a.eval o).run P w=.ok (.enter f #[E.cur id,.func (.func g) #[] cb.toArray]) w:=by
     have:=fG (P:=P) (ev:=a.eval) (w:=w) (caps:=#[]) ho rfl hS.bu;simpa[hxv,hq] using this
   unfold Oper.wp;rw[hrun];simp only[Oper.upon];rcases hown.2 with⟨hv,hn0⟩|⟨gb,cap,cur,hv,hgb,hh,hnc',hcm,hcs,htake⟩
   · -- nothing to sort
     have hl0:l=[]:=aa4 (by simpa using hn0);rw[hv];refine(hS.none none 0 _ w).mono fun e' w' ⟨he,hw⟩=>?_
     subst he;subst hw;simp only[hd];refine⟨E,ba.put ?_ (by simpa[St.cK] using hn) (bL.tup [] [] J (fun j d hd=>by simp at hd))⟩;refine hs.cK false (fun _=>⟨rfl,.inl ⟨e,_,_,hl,rfl,by simp⟩⟩) hnd ae (fun i hi=>⟨rfl,rfl⟩) (.inr J) none ⟨rfl,rfl,rfl,aaD _,fun _ _ _=>rfl⟩ (fun _=>aaD _) (fun g hg'=>by cases hg') (fun b hb=>.inl ⟨_,hl,hb⟩) (fun rep sv=>?_);subst hl0;simp only[acT,abW];refine⟨[],⟨⟨by simp,.inl ⟨hv,rfl⟩⟩,hownF⟩,fun x hx=>(by cases hx),fun j d hd=>(by simp[flat] at hd)⟩
   · rw [hxl] at hv hnc' htake
     rw[hck,ab8] at hcs;rw[hck,ab8] at htake;rcases abZ l.length with hl0|hpos
     · -- nothing to sort, with room behind
       have hl0:l=[]:=aa4 hl0;rw[hv,hl0];refine(hS.none _ cap _ w).mono fun e' w' ⟨he,hw⟩=>?_
       subst he;subst hw;simp only[hd];refine⟨E,ba.put ?_ (by simpa[St.cK] using hn) (bL.tup [] [] J (fun j d hd=>by simp at hd))⟩;refine hs.cK false (fun _=>⟨rfl,.inl ⟨e,_,_,hl,rfl,by simp[hl0]⟩⟩) hnd ae (fun i hi=>⟨rfl,rfl⟩) (.inr J) none ⟨rfl,rfl,rfl,aaD _,fun _ _ _=>rfl⟩ (fun _=>aaD _) (fun g hg'=>by cases hg') (fun b hb=>.inl ⟨_,hl,hb⟩) (fun rep sv=>?_);simp only[acT,abW];refine⟨[],⟨⟨by simp,.inr ⟨gb,cap,cur,by rw[hv,hl0];rfl,hgb,hh,aaG _,hcm,by rw[hck,ab8];exact hcs,by simp⟩⟩,hownF⟩,fun x hx=>(by cases hx),fun j d hd=>(by simp[flat] at hd)⟩
     · have hblk : gb < w.heap.size := (abn.1 hh).1
       have:Inhabited {i // i<l.length}:=⟨⟨0,hpos⟩⟩
       let d:List {i // i<l.length}:=(List.range l.length).attach.map fun z=>⟨z.1,aba.1 z.2⟩
       have hdl:d.map (·.1)=List.range l.length:=by simp[d,acu,ac9]
       have hdlen:d.length=l.length:=by simp[d]
       let enc':{i // i<l.length}→Value:=fun z=>vals.getD z.1 undef
       let cf':{i // i<l.length}→{i // i<l.length}→Int:=fun x y=>cf (l[x.1]'x.2) (l[y.1]'y.2)
       have hpl:∀x:{i // i<l.length},p (l[x.1]'x.2):=fun x=>hp _ (abV x.2)
       have hone:OneCell enc':=fun x=>bL.one (hrepx x.1 x.2) (hlf _)
       have hO:SWO (ltOf cf'):=by
         refine⟨fun x=>by simpa[ltOf,cf'] using hirr _ (hpl x),fun x y z h h'=>?_,fun x y z h h'=>?_⟩
         · simp only [ltOf, cf', decide_eq_true_eq] at h h' ⊢
           exact htr _ _ _ (hpl x) (hpl y) (hpl z) h h'
         · simp only [ltOf, cf', decide_eq_false_iff_not] at h h' ⊢
           intro hxz;by_cases hyx:cf (l[y.1]'y.2) (l[x.1]'x.2)<0
           · exact h' (htr _ _ _ (hpl y) (hpl x) (hpl z) hyx hxz)
           · have := htot _ _ (hpl x) (hpl y) h hyx
             rw[this] at hxz;exact h' hxz
       have hcurj:∀j (hj:j<l.length),cur[j]?=some (vals.getD j undef):=fun j hj=>by
         have:(cur.toList.take l.length)[j]?=vals[j]?:=by rw[htake]
         rw[abo,if_pos hj,abi] at this;rw[this,aax,aaF adh];rfl
       have hdj:∀j (hj:j<l.length),(d.toArray[j]!).1=j:=fun j hj=>by
         rw[getElem!_pos d.toArray j (by simpa[hdlen] using hj)];simp[d]
       have hH:Holds enc' w gb 0 d.toArray:=by
         intro j hj;have hj':j<l.length:=by simpa[hdlen] using hj
         refine⟨?_,?_⟩
         · simp only [World.cell?, hh, abL, enc', hdj j hj']
           exact hcurj j hj'
         · simp only [World.frozen?, hh]
           simp
       have hcmp:CmpLays1 P g cb.toArray enc' cf' gb 0 d.toArray.size w:=by
         intro m os dk hdk x y;obtain⟨_,hcall⟩:=hc (l[x.1]'x.2) (l[y.1]'y.2) (hpl x) (hpl y);generalize hW:sortWorld enc' w gb 0 m dk os=W;have hsz2:w.heap.size≤W.heap.size:=by rw[←hW,fI];omega
         have hoth:∀b,b≠gb→b<w.heap.size→W.heap[b]?=w.heap[b]?:=fun b h1 h2=>by rw[←hW];exact eY _ _ _ _ _ _ h1 h2
         have hnob:∀b,¬cI M0 (owned E s.o) .pl b→b≠gb:=fun b hb he=>by
           subst he;exact hb (.inr ⟨id,_,hl,by simp only[bG,hv,Value.ownBlock]⟩)
         have hrepW:∀x:{i // i<l.length},bL W (fun _=>False) (enc' x) (f0 (l[x.1]'x.2)):=fun x =>
           (hrepx x.1 x.2).mono hsz2 (fun b hb hnM=>hoth b (hnob b hnM) hb) (fun b _ _ hf=>hf)
         have hc2:=hcall W ([enc' x,enc' y]++cb) (by simp[hnc]) (fun j d' hd'=>?_)
         · have e1 : ([enc' x, enc' y] ++ cb).toArray = #[enc' x, enc' y] ++ cb.toArray := by apply acw; simp
           rw[e1] at hc2;refine hc2.mono fun e' w' ⟨v,he,hb,hrv⟩=>⟨?_,rz hb⟩
           have hrv':bL w' _ v (int (cf (l[x.1]'x.2) (l[y.1]'y.2))):=hrv;cases hrv';exact he
         · match j with
           | 0=>simp at hd';subst hd';exact hrepW x
           | 1=>simp at hd';subst hd';exact hrepW y
           | j + 2 =>
             have hd2:caps[j]?=some d':=by simpa using hd'
             have:=hr j d' hd2;have e2:([enc' x,enc' y]++cb).getD (j+2) undef=cb.getD j undef:=by simp[aax]
             rw[e2];exact this.mono hsz2 (fun b hb hnM=>hoth b (hnob b hnM) hb) (fun b _ _ hf=>hf)
       have eg:∀args w,(callFunc g args).run P w=.ok (.enter g args) w:=by
         obtain⟨fn,g1,g2,g3⟩:=hg;have g3':fn.body≠none:=by intro hn;rw[hn] at g3;cases g3
         have g2' : ¬ fn.name = "runtime.NumGoroutine" := by simpa using g2
         intro args w;simp[callFunc,g1,g2',g3']
       have hcall:=hS.some enc' hone cf' hO g cb.toArray gb 0 cap d.toArray w eg hcmp hH hblk (by simpa[hdlen] using hsz);have hsd:d.toArray.size=l.length:=by simp[hdlen]
       rw[hsd] at hcall;rw[hv];refine hcall.mono fun e' w' ⟨he,dk,n,os,hperm,hsorted,hw⟩=>?_
       subst he;simp only[hd];obtain⟨hps,_,hpp⟩:=hperm;have hdks:dk.size=l.length:=by rw[hps,hsd]
       have hml:(dk.toList.map fun z=>l[z.1]'z.2)=l.mergeSort fun x y=>!decide (cf y x<0):=by
         refine A1 hirr htr htot hp ?_ ?_
         · have e0 : ∀ (a : Array {i // i < l.length}) n, n = a.size → (a.extract 0 n).toList = a.toList := by rintro a _ rfl; simp
           have e1:=e0 dk l.length hdks.symm;have e2:=e0 d.toArray l.length hsd.symm;rw[List.toList_toArray] at e2;rw[e1,e2] at hpp;have e3:(d.map fun z=>l[z.1]'z.2)=l:=by
             apply abJ;intro j;rcases aa9 j l.length with hj|hj
             · simp[d,hj]
             · rw[abg (by simp[hdlen];omega),abg hj]
           have:=hpp.map fun z=>l[z.1]'z.2
           rwa [e3] at this
         · rw [acV, acr]
           intro i j hi hj hij;have:=hsorted i j (aaG _) hij (by simpa[hdks] using hj);rw[getElem!_pos dk j (by simpa using hj),getElem!_pos dk i (by simpa using hi)] at this;simpa[ltOf,cf'] using this
       rw[←hml];have hgr:w.grownBy w' (some gb):=by
         rw[hw];exact⟨rfl,rfl,rfl,by rw[fI];omega,fun k hk hne=>eY _ _ _ _ _ _ (fun he=>hne (by rw[he])) hk⟩
       have hdrawn:w.drawn≤w'.drawn:=by rw[hw];simp[sortWorld,grow,putRow,mapBlock,Sort.ahead]
       have hhw:w'.heap[gb]?=some (.cells (putCells enc' 0 dk cur) e (0,0)):=by
         have:=jT (enc:=enc') w gb n dk os (off:=0) hh;rw[hw];exact this
       refine⟨E,ba.put ?_ (by simpa[St.cK] using hn) (bL.tup [] [] J (fun j d hd=>by simp at hd))⟩;refine hs.cK false (fun _=>⟨rfl,.inl ⟨e,_,_,hl,rfl,by simp[hdks]⟩⟩) hnd ae (fun i hi=>⟨rfl,rfl⟩) (.inr J) (some gb) hgr (fun _=>hdrawn) (fun g' hg'=>⟨_,hl,by simp only[aaB] at hg';subst hg';simp only[bG,hv,Value.ownBlock]⟩) (fun b hb=>.inl ⟨_,hl,hb⟩) (fun rep sv=>?_);refine⟨dk.toList.map enc',⟨⟨by rw[hck];simp,.inr ⟨gb,cap,_,by rw[hv];simp[hdks],hgb,hhw,by simpa[hdks] using hnc',hcm,by rw[hck,ab8];simpa[putCells] using hcs,?_⟩⟩,hownF⟩,fun z hz=>?_,fun j d' hd'=>?_⟩
       · rw [hck]
         apply abJ;intro j;simp only[aaA,ab8,acB,hdks];rw[abo];by_cases hj:j<l.length
         · rw [if_pos hj, abi]
           simp only[putCells,Array.getElem?_mapIdx,hcurj j hj,abu,aaG,true_and,abL,hdks,hj,if_true,acE];rw[aaI,abi,abd adh,abu,getElem!_pos dk j adh]
         · rw[if_neg hj,abg (by simp[hdks];omega)]
       · rw [aa7] at hz
         obtain⟨q,hq,rfl⟩:=hz;rw[hck,oH (hlf _)];rfl
       · have hfl2 : flat ((dk.toList.map fun z => l[z.1]'z.2).map f0) = (dk.toList.map fun z => l[z.1]'z.2).map f0 := jF fun x hx => by obtain ⟨z, _, rfl⟩ := aa7.1 hx; exact hlf z
         rw[hfl2,aaI,aaI] at hd';cases hz:dk.toList[j]? with
         | none=>rw[hz] at hd';cases hd'
         | some z =>
           rw[hz] at hd';simp only[abu,aaB] at hd';subst hd';refine⟨hlf _,?_⟩;rw[aax,aaI,hz];exact rep _ _ _ (hrepx z.1 z.2) adj
end
end Go.Am
namespace Go.Wc
open Go.Am Go.MapKept
abbrev N6:List (List UInt8):=[[97],[98],[99],[101],[105],[110],[115],[116],[99,104],[195,169],[65],[115,99,104],[104],[108],[195,182],[117]]
def IK (l:List Int)(start:Int)(i:Nat):cP:=⟨N6.getD ((start+i) % 16).toNat default,i,0,0,1+nw l (2+i) 9⟩
def IL (l:List Int)(start:Int)(a:List cP)(i:Nat):cP :=
 if 0<i∧nw l (10+i) 3=1 then{ IK l start i with base:=(a.getD (nw l (20+i) i).toNat default).base,mark:=nw l (30+i) 4,cap:=nw l (40+i) 2 } else IK l start i
def mr (l:List Int)(start:Int):Nat→List cP
 | 0=>[]
 | i+1=>mr l start i++[IL l start (mr l start i) i]
def ay (l:List Int):List cP:=mr l (nw l 1 16) (3+nw l 0 6).toNat
theorem oX (l:List Int)(start:Int):∀i,(mr l start i).length=i
 | 0=>rfl
 | i+1=>by simp[mr,oX l start i]
theorem N7 {l:List Int}{n:Int}:l.take (if n<(l.length:Int) then n else(l.length:Int)).toNat=l.take n.toNat:=by
 split
 ·rfl
 ·rw[acb,abK,aa2 adh]
abbrev aU:List cP:=[⟨[97],0,0,0,5⟩,⟨[98],1,0,0,6⟩,⟨[99],2,0,0,5⟩,⟨[101],3,0,0,5⟩,⟨[110],4,0,0,6⟩,⟨[115],5,0,0,4⟩,⟨[116],6,0,0,3⟩,⟨[99,104],7,0,0,10⟩,⟨[195,169],3,1,0,5⟩,⟨[65],0,0,1,7⟩]
end Go.Wc
namespace Go.Wb
open Go.Am
def Dr (x:Rx)(l:List Rx):Nat:=l.findIdx fun y=>!decide (dt y x<0)
def qd (l:List Rx)(x:Rx):List Rx:=if Dr x l<l.length∧dt (l.getD (Dr x l) default) x=0 then l else l.take (Dr x l)++[x]++l.drop (Dr x l)
variable{x:Rx}{l:List Rx}{i:Nat}
theorem N8 (hi:i≤l.length)(h1:∀k,k<i→dt (l.getD k default) x<0)(h2:i<l.length→¬dt (l.getD i default) x<0):Dr x l=i:=by
 rcases aa9 i l.length with h|h
 ·refine(List.findIdx_eq h).2 ⟨?_,fun j hj=>?_⟩
  ·have:=h2 h;rw[dB h] at this;simp[this]
  ·have:=h1 j hj;rw[dB adh] at this;simp[this]
 ·have hi':i=l.length:=adh;subst hi';refine List.findIdx_eq_length.2 fun x' hx=>?_
  obtain⟨j,hj,e⟩:=abF hx;have:=h1 j hj;rw[dB hj,e] at this;simp[this]
theorem KA (hi:i<l.length)(h1:∀k,k<i→dt (l.getD k default) x<0)(h2:dt (l.getD i default) x=0):qd l x=l:=by have e:=N8 (x:=x) (l:=l) (i:=i) adh h1 (fun _=>by omega);unfold qd;rw[e,if_pos ⟨hi,h2⟩]
theorem N9 (hi:i≤l.length)(h1:∀k,k<i→dt (l.getD k default) x<0)(h2:i<l.length→¬dt (l.getD i default) x<0)(h3:i<l.length→¬dt (l.getD i default) x=0) :
  qd l x=l.take i++[x]++l.drop i:=by
 have e:=N8 hi h1 h2;unfold qd;rw[e,if_neg fun q=>h3 q.1 q.2]
theorem T8 (x:Rx)(l:List Rx):Dr x l≤l.length:=List.findIdx_le_length
theorem T9 {k:Nat}(h:k<Dr x l):dt (l.getD k default) x<0:=by have h1:=T8 x l;have h2:=List.not_of_lt_findIdx (p:=fun y=>!decide (dt y x<0)) (xs:=l) h;rw[dB adh];simpa using h2
theorem Ua (h:Dr x l<l.length):¬dt (l.getD (Dr x l) default) x<0:=by have h2:=List.findIdx_getElem (p:=fun y=>!decide (dt y x<0)) (xs:=l) (w:=h);have e:l.getD (Dr x l) default=l[l.findIdx fun y=>!decide (dt y x<0)]:=dB h;rw[e];simpa using h2
variable{y:Rx}
theorem yv :y∈qd l x↔y∈l∨y=x:=by
 unfold qd;split
 · next h=>exact⟨.inl,fun q=>q.elim id fun e=>by rw[e,←iJ _ _ h.2];exact aS h.1⟩
 · rw [abl, abl, aaY]
   constructor
   · rintro ((h | h) | h)
     · exact .inl (abO h)
     · exact .inr h
     · exact .inl (abp h)
   · rintro (h | h)
     · rw [← abU (Dr x l) l, abl] at h
       exact h.elim (fun h=>.inl (.inl h)) .inr
     · exact .inl (.inr h)
theorem CC :rh x y=true∧x≠y↔dt x y<0:=by
 rw[oQ];constructor
 ·rintro⟨h,hn⟩;rcases Int.lt_or_eq_of_le h with h|h
  ·exact h
  ·exact absurd (iJ _ _ h) hn
 ·exact fun h=>⟨adh,fun e=>by rw[e] at h;exact x4 _ h⟩
theorem yw (hs:pT rh l):pT rh (qd l x):=by
 unfold qd;split
 ·exact hs
 ·next hq =>
  have hlow:∀a∈l.take (Dr x l),dt a x<0:=fun a ha=>by
   obtain⟨j,hj,_,rfl⟩:=rD ha;exact T9 hj
  have hhigh:∀a∈l.drop (Dr x l),dt x a<0:=fun a ha=>by
   obtain⟨j,hj,e⟩:=abF ha;rw[aaX] at hj;have h0:Dr x l<l.length:=adh;have h1:=Ua h0;have h2:¬dt (l.getD (Dr x l) default) x=0:=fun q=>hq ⟨h0,q⟩
   have h3:dt x (l.getD (Dr x l) default)<0:=by have:=kX (l.getD (Dr x l) default) x;omega
   rw[List.getElem_drop,←dB adh] at e;rw[←e];by_cases hj0:j=0
   ·rw[hj0,Nat.add_zero];exact h3
   ·exact kx _ _ _ h3 (CC.1 (jI hs adh adh))
  have hs':=hs;unfold pT at hs' ⊢;rw[abr,List.pairwise_append];refine⟨List.Pairwise.take hs',?_,?_⟩
  ·rw[List.singleton_append,abt];exact⟨fun a ha=>CC.2 (hhigh a ha),List.Pairwise.drop hs'⟩
  ·intro a ha b hb;rw[List.singleton_append] at hb;rcases aa3.1 hb with rfl|hb
   ·exact CC.2 (hlow a ha)
   ·exact CC.2 (kx _ _ _ (hlow a ha) (hhigh b hb))
def mY (o:List Rx)(x:Rx):List Rx:=if x.kind=1 then o else if 2<x.kind then qd o x else o
def mu (L:List Rx):List Rx:=L.foldl mY []
def yx (b:Bool)(x:Rx):Bool:=if x.kind=1 then b else if 2<x.kind then b||cT x else b
def mv (L:List Rx):Bool:=L.foldl yx false
def rl (L:List Rx):Bool:=L.any fun x=>decide (x.kind=1)
def PO (L:List Rx)(v:Nat):Bool:=L.any fun x=>x.syms.any fun z=>decide (z=v)
def fM (L:List Rx)(n:Nat):List Int:=((List.range n).filter (PO L)).map fun v:Nat=>(v:Int)
def mw (L:List Rx):List Rx:=if 0<(fM L 64).length then qd (mu L) (.mk 2 (fM L 64) []) else mu L
def mZ (L:List Rx):List Rx:=if rl L=true∧mv L=false then qd (mw L) eP else mw L
def qe (l:List Rx):Rx:=wk (mZ (aX l))
theorem jy {α β:Type} [Inhabited β]{f:α→β→α}{a:α}{l:List β}(h:i<l.length):(l.take (i+1)).foldl f a=f ((l.take i).foldl f a) (l.getD i default):=by rw[bF h,ab2];rfl
theorem A6:∀ (L o:List Rx),pT rh o→pT rh (L.foldl mY o)∧∀y,y∈L.foldl mY o↔y∈o∨(y∈L∧2<y.kind)
 | [],o,h=>⟨h,fun y=>⟨.inl,fun q=>q.elim id fun q=>by cases q.1⟩⟩
 | x :: L, o, h => by
   have h1:pT rh (mY o x):=by unfold mY;split;exact h;split;exact yw h;exact h
   obtain⟨h2,h3⟩:=A6 L (mY o x) h1;refine⟨h2,fun y=>(h3 y).trans ?_⟩;have h4:y∈mY o x↔y∈o∨(y=x∧2<x.kind):=by
     unfold mY;split
     · exact⟨.inl,fun q=>q.elim id fun q=>adh⟩
     · split
       · next hk=>rw[yv];exact or_congr_right ⟨fun e=>⟨e,hk⟩,fun e=>e.1⟩
       · next hk=>exact⟨.inl,fun q=>q.elim id fun q=>absurd q.2 hk⟩
   rw[h4,aa3];constructor
   · rintro ((q | ⟨rfl, q⟩) | ⟨q, q2⟩)
     · exact .inl q
     · exact .inr ⟨.inl J,q⟩
     · exact .inr ⟨.inr q,q2⟩
   · rintro (q | ⟨rfl | q, q2⟩)
     · exact .inl (.inl q)
     · exact .inl (.inr ⟨rfl,q2⟩)
     · exact .inr ⟨q,q2⟩
theorem A7:∀ (L:List Rx)(b:Bool),L.foldl yx b=true↔b=true∨∃x∈L,2<x.kind∧cT x=true
 | [],b=>⟨.inl,fun q=>q.elim id fun⟨x,hx,_⟩=>by cases hx⟩
 | x :: L, b => by
   rw[acz,A7 L];have h:yx b x=true↔b=true∨(2<x.kind∧cT x=true):=by
     unfold yx;split
     · exact⟨.inl,fun q=>q.elim id fun q=>adh⟩
     · split
       · next hk=>rw[abC];exact or_congr_right ⟨fun e=>⟨hk,e⟩,fun e=>e.2⟩
       · next hk=>exact⟨.inl,fun q=>q.elim id fun q=>absurd q.1 hk⟩
   rw[h];constructor
   · rintro ((q | q) | ⟨y, hy, q⟩)
     · exact .inl q
     · exact .inr ⟨x,aaJ,q⟩
     · exact .inr ⟨y,aaW _ hy,q⟩
   · rintro (q | ⟨y, hy, q⟩)
     · exact .inl (.inl q)
     · rcases aa3.1 hy with rfl | hy
       · exact .inl (.inr q)
       · exact .inr ⟨y,hy,q⟩
theorem KB (L:List Rx)(n:Nat):pT Ge (fM L n):=by unfold fM pT;rw[acV];refine ade (fun{a b} h=>⟨decide_eq_true adh,adh⟩) (List.Pairwise.filter _ (List.pairwise_lt_range (n:=n)))
theorem KC {L:List Rx}{n:Nat}{z:Int}:z∈fM L n↔(0≤z∧z<n)∧∃x∈L,z∈x.syms:=by
 unfold fM PO;rw[aa7];constructor
 ·rintro⟨v,hv,rfl⟩;rw[abA,aba,abk] at hv;obtain⟨h1,x,hx,h2⟩:=hv;obtain⟨z,hz,e⟩:=abk.1 h2;exact⟨adh,x,hx,by rw[←of_decide_eq_true e];exact hz⟩
 ·rintro⟨h,x,hx,hz⟩;refine⟨z.toNat,abA.2 ⟨aba.2 adh,abk.2 ⟨x,hx,abk.2 ⟨z,hz,decide_eq_true adh⟩⟩⟩,adh⟩
theorem Oa (h:Nf x){z:Int}(hz:z∈x.syms):x.kind=2:=by cases h<;>first|rfl|cases hz
theorem w5 (h:∀x∈l,Nf x):qe l=gZ l:=by
 have hL:∀y∈aX l,Nf y∧y.kind≠4:=fun y hy=>tm h hy
 have hz:∀z,z∈fM (aX l) 64↔z∈dg l:=fun z=>by
   rw[KC,k7];constructor
   · rintro ⟨_, x, hx, hz⟩
     exact⟨x,hx,Oa (hL x hx).1 hz,hz⟩
   · rintro ⟨x, hx, hk, hz⟩
     have:=Iu h (k7.2 ⟨x,hx,hk,hz⟩);exact⟨adh,x,hx,hz⟩
 have hs:fM (aX l) 64=uH (dg l):=qP uG (KB _ _) (pV _) fun z=>by rw[hz,k6]
 have h0:0<(fM (aX l) 64).length↔0<(dg l).length:=by
   rw[ab0,ab0];exact exists_congr hz
 obtain⟨h1,h2⟩:=A6 (aX l) [] List.Pairwise.nil;have h3 : pT rh (mw (aX l)) ∧ ∀ y, y ∈ mw (aX l) ↔ y ∈ ef l ∧ y.kind ≠ 1 := by
   have hD:∀y,(y∈aX l∧2<y.kind∨(0<(dg l).length∧y=.mk 2 (uH (dg l)) []))↔y∈ef l∧y.kind≠1:=fun y=>by
     rw[j1,jZ,gC,iq];constructor
     · rintro (⟨q1, q2⟩ | ⟨q1, rfl⟩)
       · exact⟨.inl ⟨q1,adh,adh⟩,adh⟩
       · exact⟨.inr ⟨q1,rfl⟩,by show ¬(2:Int)=1;decide⟩
     · rintro ⟨⟨q1, q2, q3⟩ | ⟨q1, rfl⟩, q4⟩
       · have := (hL y q1).1.kinds
         exact .inl ⟨q1,adh⟩
       · exact .inr ⟨q1,rfl⟩
   unfold mw;by_cases q:0<(fM (aX l) 64).length
   · rw [if_pos q]
     refine⟨yw h1,fun y=>?_⟩;rw[←hD,yv,show(y∈mu (aX l))↔_ from h2 y,hs];constructor
     · rintro ((q1 | q1) | q1)
       · cases q1
       · exact .inl q1
       · exact .inr ⟨h0.1 q,q1⟩
     · rintro (q1 | q1)
       · exact .inl (.inr q1)
       · exact .inr q1.2
   · rw [if_neg q]
     refine⟨h1,fun y=>?_⟩;rw[←hD,show(y∈mu (aX l))↔_ from h2 y];constructor
     · rintro (q1 | q1)
       · cases q1
       · exact .inl q1
     · rintro (q1 | q1)
       · exact .inr q1
       · exact absurd (h0.2 q1.1) q
 have hn:=fun x (hx:x∈ef l)=>wT h (y:=x) hx
 have h4 : pT rh (mZ (aX l)) ∧ ∀ y, y ∈ mZ (aX l) ↔ y ∈ j9 (ef l) := by
   have hC:∀y,y∈j9 (ef l)↔_:=fun y=>NQ (pU _) (fun x hx=>⟨(hn x hx).1,(hn x hx).2.1⟩)
   have hO:mv (aX l)=true↔∃y∈ef l,y.kind≠1∧cT y=true:=by
     rw[show(mv (aX l)=true)↔_ from A7 (aX l) false];constructor
     · rintro (q | ⟨x, hx, hk, ha⟩)
       · cases q
       · exact⟨x,by rw[j1,jZ,gC,iq];exact .inl ⟨hx,adh,adh⟩,adh,ha⟩
     · rintro ⟨y, hy, hk, ha⟩
       rw[j1,jZ,gC,iq] at hy;rcases hy with⟨q1,q2,q3⟩|⟨q1,rfl⟩
       · have := (hL y q1).1.kinds
         exact .inr ⟨y,q1,adh,ha⟩
       · rw [qH, if_neg (by show ¬ (2 : Int) = 3; decide), if_neg (by show ¬ (2 : Int) = 4; decide)] at ha
         exact absurd (of_decide_eq_true ha) (by show ¬((2:Int)=1∨(2:Int)=5);decide)
   have hE:rl (aX l)=true↔eP∈ef l:=by
     unfold rl;rw[abk,j1,jZ,gC,iq];constructor
     · rintro ⟨x, hx, hk⟩
       rw[←(hL x hx).1.k1 (of_decide_eq_true hk)];have:=of_decide_eq_true hk;exact .inl ⟨hx,adh,adh⟩
     · rintro (⟨q, _⟩ | ⟨_, q⟩)
       · exact⟨_,q,decide_eq_true J⟩
       · injection q with q;exact absurd q adj
   have h1':∀y∈ef l,y.kind=1→y=eP:=fun y hy hk=>(hn y hy).1.k1 hk
   unfold mZ;by_cases q:rl (aX l)=true∧mv (aX l)=false
   · rw [if_pos q]
     refine⟨yw h3.1,fun y=>?_⟩;rw[yv,h3.2,hC];constructor
     · rintro (q1 | rfl)
       · exact⟨q1.1,fun q2=>q1.2 q2.1⟩
       · exact⟨hE.1 q.1,fun q2=>by rw[hO.2 q2.2] at q;cases q.2⟩
     · rintro ⟨q1, q2⟩
       by_cases hk:y.kind=1
       · exact .inr (h1' y q1 hk)
       · exact .inl ⟨q1,hk⟩
   · rw [if_neg q]
     refine⟨h3.1,fun y=>?_⟩;rw[h3.2,hC];constructor
     · exact fun q1=>⟨q1.1,fun q2=>q1.2 q2.1⟩
     · rintro ⟨q1, q2⟩
       refine⟨q1,fun hk=>?_⟩;have he:rl (aX l)=true:=hE.2 (by rw[←h1' y q1 hk];exact q1);cases ho:mv (aX l) with
       | true=>exact q2 ⟨hk,hO.1 ho⟩
       | false=>exact q ⟨he,ho⟩
 have h5:pT rh (j9 (ef l)):=(Ck (pU _) hn fun x hx y hy=>yc (l:=l) hx hy).2.1;unfold qe gZ;rw[qP x5 h4.1 h5 h4.2]
theorem Oc (h:Nf y)(hk:y.kind≠0∧y.kind≠4):gZ [y]=y:=by
 have hm:∀x∈[y],x=y:=fun x hx=>aaY.1 hx
 unfold gZ;rw[AR (l:=[y]) (fun x hx=>by rw[hm x hx];exact h) (fun x hx=>by rw[hm x hx];exact hk) (aci _ _) (fun x hx z hz _ _=>by rw[hm x hx,hm z hz]),mj (fun q=>absurd q.1 (by simp)),Cj rfl];rfl
def rG (x:Rx):Rx:=if x.kind=0∨x.kind=1 then eP else if x.kind=5 then x else .mk 5 [] [if x.kind=4 then qe (x.kids.filter fun y=>!decide (y.kind=1)) else x]
theorem ES  (h:Nf x):rG x=lC x:=by
 unfold rG;by_cases h01:x.kind=0∨x.kind=1
 · rw[if_pos h01,wM h01]
 · rw [if_neg h01]
   by_cases h5:x.kind=5
   · rw[if_pos h5,wN h5]
   · rw [if_neg h5, oR h01 h5]
     by_cases h4:x.kind=4
     · rw [if_pos h4]
       obtain⟨e,h2,hn,hk4,hs,ht,ha⟩:=h.k4 h4;rw[w5 fun y hy=>hn y (abA.1 hy).1];have hself:∀l:List Rx,2≤l.length→l.Sublist x.kids→gZ l=.mk 4 [] l:=fun l hl hsub =>
         AS hl (fun y hy=>hn y (hsub.subset hy)) (fun y hy=>hk4 y (hsub.subset hy)) (List.Pairwise.sublist hsub hs) (fun y hy z hz=>ht y (hsub.subset hy) z (hsub.subset hz))
           fun y hy hy1 z hz=>ha y (hsub.subset hy) hy1 z (hsub.subset hz)
       by_cases q:(x.kids.getD 0 default).kind=1
       · have hf : x.kids.filter (fun y => !decide (y.kind = 1)) = x.kids.drop 1 := by
           match hk:x.kids,h2 with
           | y :: l, _ =>
             rw[hk] at q hs hn hk4;rw[acy (by have:y.kind=1:=q;simp[this])];show l.filter _=l;refine acA.2 fun z hz=>?_
             have h6:=nR hs (x:=z) hz;have h7:¬z.kind=1:=fun hz1=>h6.1 (ff hs (fun x hx=>⟨hn x hx,(hk4 x hx).1⟩) h6.2 hz1).symm
             simp[h7]
         rw[hf];by_cases q2:x.kids.length=2
         · rw [wO ⟨h4, q⟩ q2]
           have hl:x.kids.drop 1=[x.kids.getD 1 default]:=by rw[drop_cons adh,abM adh]
           have hm:x.kids.getD 1 default∈x.kids:=aS adh;rw[hl];have h8:=tp (hn _ hm);have h9:qe [x.kids.getD 1 default]=gZ [x.kids.getD 1 default]:=w5 fun y hy=>by rw[aaY.1 hy];exact hn _ hm
           rw[Oc (hn _ hm) (hk4 _ hm)]
         · rw [wQ ⟨h4, q⟩ q2, hself _ (by rw [aaX]; omega) (List.drop_sublist _ _), h4]
           have es:x.syms=[]:=by rw[e];rfl
           rw[es]
       · rw [qO fun p => q p.2]
         have hf:x.kids.filter (fun y=>!decide (y.kind=1))=x.kids:=by
           refine acA.2 fun z hz=>?_
           have h7:¬z.kind=1:=fun hz1=>q (by rw[ff hs (fun x hx=>⟨hn x hx,(hk4 x hx).1⟩) hz hz1];exact hz1)
           simp[h7]
         rw[hf,hself _ h2 (List.Sublist.refl _),←e]
     · rw[if_neg h4,qO fun p=>h4 p.1]
theorem sj (l:List Rx)(x:Rx):Rx.aE (qd l x)≤Rx.aE l+x.size:=by
 unfold qd;split
 ·omega
 ·have:=jm l (Dr x l);rw[eo,eo,Rx.aE,Rx.aE];omega
theorem yy:∀ (L o:List Rx),Rx.aE (L.foldl mY o)≤Rx.aE o+Rx.aE L
 | [],o=>by rw[List.foldl_nil,Rx.aE];omega
 | x :: L, o => by
   have h1:=yy L (mY o x);have h2:Rx.aE (mY o x)≤Rx.aE o+x.size:=by
     have:=sj o x;unfold mY;split
     · omega
     · split<;>omega
   rw[acz,Rx.aE];omega
theorem uT (L:List Rx):Rx.aE (mu L)≤Rx.aE L:=by have:=yy L [];rw[show Rx.aE []=0 from rfl,abL] at this;exact this
theorem uU (L:List Rx)(n:Nat):(fM L n).length≤n:=by unfold fM;rw[aaA];exact abb (abT _ _) (by rw[aa1];exact aaD _)
theorem yz (L:List Rx):Rx.aE (mw L)≤Rx.aE L+65:=by have h1:=uT L;have h2:=sj (mu L) (.mk 2 (fM L 64) []);have h3:=uU L 64;rw[dY,Rx.aE] at h2;unfold mw;split<;>omega
theorem Hb (L:List Rx):Rx.aE (mZ L)≤Rx.aE L+66:=by have h1:=yz L;have h2:=sj (mw L) eP;rw[show(eP).size=1 from rfl] at h2;unfold mZ;split<;>omega
section
variable {L:List Rx}{j k v:Nat}
theorem Ub (h:j<L.length)(hk:(L.getD j default).kind=1):mu (L.take (j+1))=mu (L.take j):=by unfold mu;rw[jy h];exact if_pos hk
theorem Od (h:j<L.length)(hk:2<(L.getD j default).kind):mu (L.take (j+1))=qd (mu (L.take j)) (L.getD j default):=by unfold mu;rw[jy h];unfold mY;rw[if_neg adh,if_pos hk]
theorem Uc (h:j<L.length)(hk:¬(L.getD j default).kind=1)(h2:¬2<(L.getD j default).kind):mu (L.take (j+1))=mu (L.take j):=by unfold mu;rw[jy h];unfold mY;rw[if_neg hk,if_neg h2]
theorem Ud (h:j<L.length)(hk:(L.getD j default).kind=1):mv (L.take (j+1))=mv (L.take j):=by unfold mv;rw[jy h];exact if_pos hk
theorem Ue (h:j<L.length)(hk:2<(L.getD j default).kind)(ho:mv (L.take j)=true):mv (L.take (j+1))=true:=by unfold mv at ho ⊢;rw[jy h,ho];unfold yx;rw[if_neg adh,if_pos hk];rfl
theorem Uf (h:j<L.length)(hk:2<(L.getD j default).kind)(ho:mv (L.take j)=false):mv (L.take (j+1))=cT (L.getD j default):=by unfold mv at ho ⊢;rw[jy h,ho];unfold yx;rw[if_neg adh,if_pos hk];rfl
theorem Ug (h:j<L.length)(hk:¬(L.getD j default).kind=1)(h2:¬2<(L.getD j default).kind):mv (L.take (j+1))=mv (L.take j):=by unfold mv;rw[jy h];unfold yx;rw[if_neg hk,if_neg h2]
theorem Uh (h:j<L.length)(hk:(L.getD j default).kind=1):rl (L.take (j+1))=true:=by unfold rl;rw[bF h,ac4,List.any_cons,decide_eq_true hk,Bool.true_or,Bool.or_true]
theorem Hc (h:j<L.length)(hk:¬(L.getD j default).kind=1):rl (L.take (j+1))=rl (L.take j):=by unfold rl;rw[bF h,ac4,List.any_cons,decide_eq_false hk,List.any_nil,Bool.or_false,Bool.or_false]
def po (L:List Rx)(j k v:Nat):Bool:=PO (L.take j) v||((L.getD j default).syms.take k).any fun z=>decide (z=(v:Int))
theorem QL:po L j 0=PO (L.take j):=by funext v;unfold po;simp
theorem Oe (h:j<L.length)(hk:(L.getD j default).syms.length≤k):PO (L.take (j+1))=po L j k:=by
 funext v;unfold po;rw[aa2 hk]
 show List.any _ _=(List.any _ _||_);rw[bF h,ac4,List.any_cons,List.any_nil,Bool.or_false]
theorem Hd (h:k<(L.getD j default).syms.length)(v:Nat):po L j (k+1) v=(po L j k v||decide ((L.getD j default).syms.getD k default=(v:Int))):=by unfold po;rw[bF h,ac4,List.any_cons,List.any_nil,Bool.or_false,Bool.or_assoc]
def iz (f:Nat→Bool):List SV:=(List.range 64).map fun v=>vvw (bool (f v))
theorem oY (f:Nat→Bool):(iz f).length=64:=by unfold iz;rw[aaA,aa1]
theorem sk {f:Nat→Bool}(h:v<64):(iz f)[v]?=some (vvw (bool (f v))):=by unfold iz;rw[aaI,abX h];rfl
theorem KD {f:Nat→Bool}(h:v<64):(iz f)[0+(v:Int).toNat]?=some (vvw (bool (f v))):=by rw[show 0+(v:Int).toNat=v by omega];exact sk h
theorem ET (id:Nat)(f:Nat→Bool):de id (iz f)=iz f:=by unfold de iz;rw[acu];rfl
theorem EU (id:Nat)(h:k<(L.getD j default).syms.length)(hz:0≤(L.getD j default).syms.getD k default∧(L.getD j default).syms.getD k default<64) :
  ry (de id (iz (po L j k))) (0+((L.getD j default).syms.getD k default).toNat) [vvw (bool true)]=iz (po L j (k+1)):=by
 rw[ET];refine abJ fun n=>?_
 rw[fD (by rw[oY];simp only[abD];omega)];rcases aa9 n 64 with hn|hn
 ·rw[sk hn,sk hn,Hd h];split
  ·next q =>
   rw[abD] at q;have e:n=((L.getD j default).syms.getD k default).toNat:=adh;rw[show n-(0+((L.getD j default).syms.getD k default).toNat)=0 by omega,decide_eq_true (show(L.getD j default).syms.getD k default=(n:Int) by omega),Bool.or_true];rfl
  ·next q =>
   rw[abD] at q;rw[decide_eq_false (show ¬(L.getD j default).syms.getD k default=(n:Int) by omega),Bool.or_false]
 ·rw[if_neg (by simp only[abD];omega),abg (by rw[oY];exact hn),abg (by rw[oY];exact hn)]
theorem QM (h:PO L v=true):fM L (v+1)=fM L v++[(v:Int)]:=by unfold fM;rw[abB,abG,acP h,aaK];rfl
theorem QN (h:PO L v=false):fM L (v+1)=fM L v:=by unfold fM;rw[abB,abG,acy (by rw[h];decide),acf,abe]
theorem QO (h:0<(fM L 64).length):mw L=qd (mu L) (.mk 2 (fM L 64) []):=if_pos h
theorem QP (h:¬0<(fM L 64).length):mw L=mu L:=if_neg h
theorem QQ (h:rl L=true)(h2:mv L=false):mZ L=qd (mw L) eP:=if_pos ⟨h,h2⟩
theorem QR (h:rl L=false):mZ L=mw L:=if_neg fun q=>by rw[h] at q;cases q.1
theorem QS (h:mv L=true):mZ L=mw L:=if_neg fun q=>by rw[h] at q;cases q.2
end
def sn (x:Rx):Rx:=if x.kind=4 then qe (x.kids.filter fun y=>!decide (y.kind=1)) else x
theorem Of (h:x.kind=4):sn x=qe (x.kids.filter fun y=>!decide (y.kind=1)):=if_pos h
theorem Og (h:¬x.kind=4):sn x=x:=if_neg h
theorem QT (h:x.kind=0∨x.kind=1):rG x=eP:=if_pos h
theorem QU (h:¬(x.kind=0∨x.kind=1))(h5:x.kind=5):rG x=x:=by unfold rG;rw[if_neg h,if_pos h5]
theorem QV (h:¬(x.kind=0∨x.kind=1))(h5:¬x.kind=5):rG x=.mk 5 [] [sn x]:=by unfold rG;rw[if_neg h,if_neg h5];rfl
theorem Ui {p:Rx→Bool}(h:i<l.length)(hp:p (l.getD i default)=true):(l.take (i+1)).filter p=(l.take i).filter p++[l.getD i default]:=by rw[bF h,abG,acP hp];rfl
theorem Uj {p:Rx→Bool}(h:i<l.length)(hp:p (l.getD i default)=false):(l.take (i+1)).filter p=(l.take i).filter p:=by rw[bF h,abG,acy (by rw[hp];decide),acf,abe]
abbrev Oh (y:Rx):Bool:=!decide (y.kind=1)
theorem VW (h:¬y.kind=1):Oh y=true:=by simp[h]
theorem VX (h:y.kind=1):Oh y=false:=by simp[h]
theorem oZ (p:Rx→Bool)(l:List Rx):Rx.aE (l.filter p)≤Rx.aE l:=kJ List.filter_sublist
theorem Nf.kids (h:Nf x)(hy:y∈x.kids):Nf y:=by
 cases h with
 | none=>cases hy
 | empty=>cases hy
 | set h=>cases hy
 | seq h1 h2 h3=>exact h2 y hy
 | alt h1 h2 h3 h4 h5 h6=>exact h2 y hy
 | star h1 h2 h3=>rw[aaY.1 hy];exact h1
def vM (t:Bool)(r:Rx):List Rx:=if t=true∧r.kind=3 then(r.kids.map (aN t)).reverse else r.kids.map (aN t)
theorem IM (t:Bool)(r:Rx):(vM t r).length=r.kids.length:=by unfold vM;split<;>simp
variable{t:Bool}{r:Rx}
theorem VY {k:Nat}(ht:t=true)(h3:r.kind=3)(hi:i<r.kids.length)(hk:(k:Int)=(r.kids.length:Int)-1-i):(vM t r).getD i default=aN t (r.kids.getD k default):=by unfold vM;rw[if_pos ⟨ht,h3⟩,aax,List.getElem?_reverse (by rw[aaA];exact hi),aaA,aaI,←show k=r.kids.length-1-i by omega,aaF (show k<r.kids.length by omega),abu,acI,dB adh]
theorem VZ (h:¬(t=true∧r.kind=3))(hi:i<r.kids.length):(vM t r).getD i default=aN t (r.kids.getD i default):=by unfold vM;rw[if_neg h,getD_map hi]
theorem KE (t:Bool)(r:Rx):Rx.aE (vM t r)≤2*Rx.aE r.kids:=by
 have:=vG t r.kids;unfold vM;split
 ·rw[qQ];exact this
 ·exact this
theorem CD (hv:aT r=true):∀x∈vM t r,Nf x:=fun x hx=>by
 have:x∈r.kids.map (aN t):=by
  unfold vM at hx;split at hx
  ·exact acH.1 hx
  ·exact hx
 obtain⟨y,hy,rfl⟩:=aa7.1 this;exact pY t y (ir hv y hy)
theorem Y0 (h:r.kind=3):aN t r=c4 (vM t r):=by
 unfold vM;cases t with
 | true=>rw[if_pos ⟨rfl,h⟩];exact nQ h
 | false=>rw[if_neg (fun q=>by cases q.1)];exact lX h
theorem Y1 (hv:aT r=true)(h:r.kind=4):aN t r=qe (vM t r):=by rw[w5 (CD hv)];unfold vM;rw[if_neg fun q=>adh];exact kY h
theorem Y2 (hv:aT r=true)(h:r.kind=5):aN t r=rG ((vM t r).getD 0 default):=by have hl:=(lL hv h).2;rw[ES (CD hv _ (aS (by rw[IM];omega)))];unfold vM;rw[if_neg fun q=>adh];exact kZ h
theorem Y3 (hv:aT r=true)(h3:¬r.kind=3)(h4:¬r.kind=4)(h5:¬r.kind=5):aN t r=r:=by
 rw[jY h3 h4 h5];have hk:=pX hv;have:r.kids=[]:=by
  by_cases h2:r.kind=2
  ·rw[mh h2,aaZ] at hv;exact aa4 (of_decide_eq_true hv.1)
  ·rw[jG adh,aaZ] at hv;exact aa4 (of_decide_eq_true hv.2)
 rw[←this,←Rx.eta]
end Go.Wb
namespace Go.Am
open Go.RowKit
section
variable {P:Program} {w0:Fr}{M0:Nat→Prop}{o:Oper}{ρ:Operand→Option SV}{ob:List (Nat×Ob)}{x y:Operand}{T e:TypeId}{id off k:Nat}{cs:List SV}
theorem kL {caps:List qw}(ho:o.op=.load T x)(hT:bo P T=some true)(hk:bX P T=some k)(hx:ρ x=some (.pbox id off))(hl:ob.lookup id=some (.box e cs))(hle:Nat.ble (off+k) cs.length=true)(hv:(cs.drop off).take k=caps.map qw.sv) :
   Pure P w0 M0 o ρ ob (.hid D9 caps) :=
 aJ fun E w ev hw h=>by
   have hr:=h x _ hx e cs hl;have hle':=aaz hle;obtain⟨vals,h1,h2,h3,h4⟩:=hw.objs id _ hl;have hcell:=run_loadCells (P:=P) w ⟨E.blk id,off,none⟩ k (fun j=>vals.getD (off+j) undef) (fun j hj=>by
     rw[Addr.add_lit,cell_of_row w _ (off+j) _ e (0,0) h1];have:off+j<vals.length:=adh;simp[aax,aaF this])
   have hcl:caps.length=k:=by
     have:=congrArg List.length hv;simp only[aaO,aaX,aaA] at this;omega
   have e1:(List.range k).map (fun j=>vals.getD (off+j) undef)=(vals.drop off).take k:=by
     apply abJ;intro j;simp only[aaI,abo,ab3];rcases aa9 j k with hj|hj
     · rw [if_pos hj]
       have:off+j<vals.length:=adh;simp[hj,aax,aaF this]
     · rw[if_neg adh];simp;omega
   refine⟨.agg ((vals.drop off).take k).toArray,w,?_,.refl _ _,(vals.drop off).take k,rfl,by rw[hcl];simp;omega,fun j c hc=>?_⟩
   · simp only[execOp,ho,hr,Instr.loadAt,Instr.sureAddr,loadVar,Sem.run_bind,dy hT,dE hk,Result.andThen_ok,Sem.run_pure,if_true,hcell,e1]
   · have hd : ((cs.drop off).take k)[j]? = some c.sv := by rw [hv, aaI, hc]; rfl
     rw[abo] at hd;split at hd
     · rename_i hj
       rw[ab3] at hd;have h5:=(h4 _ _ hd).2.2;have e2:((vals.drop off).take k).getD j undef=vals.getD (off+j) undef:=by
         rw[aax,abo,if_pos hj,ab3,←aax]
       rw[e2];cases c with
       | bx i=>exact h5
       | pl d=>exact h5
       | ow i=>exact h5
       | om i=>exact h5
     · cases hd
theorem kM {cx:Operand}{ats:Array TypeId}{c c' c2:fX}{f:FuncId}{caps:List qw}{ds:List AV}{d:AV}{r:AV}
   (ho:o.op=.call { callee:=.value cx,args:=#[x,y],argTypes:=ats })(hc:ρ cx=some (.v c (.clo f [])))(hx:ρ x=some (.hid D9 caps))(ha:jE ob (caps.map qw.sv)=some (c',ds))(hy:viewAt ρ ob y=some (c2,d))(h:au P f [.agg ds,d] (.p r))
   (ae:∀b,M0 b→b<w0.w.heap.size):Pure P w0 M0 o ρ ob (.v .pl r):=by
 intro E w ev hw hh;have hcv:=hh cx _ hc;simp only[bm] at hcv;obtain⟨vs,hvx,hvl,hvc⟩:=hh x _ hx;obtain⟨g1,g2⟩:=lF hw (caps.map qw.sv) vs c' ds (by rw[hvl,aaA]) (fun j sv hd=>by
   rw[aaI] at hd;cases hq:caps[j]? with
   | none=>rw[hq] at hd;cases hd
   | some q =>
     rw[hq] at hd;simp only[abu,aaB] at hd;subst hd;have:=hvc j q hq;cases q with
     | bx i=>exact this
     | pl d=>exact this
     | ow i=>exact this
     | om i=>exact this) ha
 have hyv:=cG hw hh hy;generalize hq:ev cx=q at hcv;cases hcv with
 | clo _ vs' _ hn hr =>
   have hn0:vs'=[]:=aa4 hn;subst hn0;unfold sM;rw[fG ho hq h.1];refine⟨rfl,?_⟩;have hall:=h.2 w [ev x,ev y] rfl (fun j d' hd=>?_)
   · have e1 : [ev x, ev y].toArray = (#[x, y] : Array Operand).map ev ++ ([] : List Value).toArray := by apply acw; simp
     rw[e1] at hall;refine hall.mono fun e w' ⟨v,he,hb,hrv⟩=>⟨v,he,hb.to,?_⟩
     have hrep:=hrv.rep (fun b hb=>hb);refine hrep.cm fun b hb'=>?_
     rcases hb' with hb'|hb'
     · have:=ae b hb';have:=hw.below.size;omega
     · exact(hw.bH hb').2
   · match j with
     | 0 =>
       simp only[abf,aaB] at hd;subst hd;show bL w (fun _=>False) (ev x) (.agg ds);have hvx':ev x=.agg vs.toArray:=hvx;rw[hvx'];exact .agg vs ds (by rw[hvl,←g1,aaA]) (fun j d hd=>(g2 j d hd).1) (fun j d hd=>(g2 j d hd).2.cm fun b hb=>hb.elim)
     | 1 =>
       simp only[abY,abf,aaB] at hd;subst hd;exact hyv.cm fun b hb=>hb.elim
     | j+2=>simp at hd
end
end Go.Am
namespace Go.Wc
open Go.Am
theorem tx (l:List Int):3≤(ay l).length∧(ay l).length≤8:=by have:=lx (l:=l) (i:=0) (most:=6) adj;unfold ay;rw[oX];omega
end Go.Wc
namespace Go.Am
open Go.RowKit
section
variable {P:Program} {w0:Fr}{M0:Nat→Prop}{o:Oper}{ρ:Operand→Option SV}{ob:List (Nat×Ob)}{e T:TypeId}{x y:Operand}{b:Nat}
theorem KG {u:Value}{n:Int}{q q':IntKind}(ho:o.op=.makeSlice T x y)(hT:P.underlying T=some (.slice e))(hel:iE P e 1 b=true)(hz:zeroOf P e=some [u])(hu:u.oneCell'=true)
   (hx:bg ρ x=some (.int q n))(hy:bg ρ y=some (.int q' n))(h:0<n∧b*n.toNat≤281474976710656∧n≤4611686018427387904)(ae:∀b,M0 b→b<w0.w.heap.size):Pure P w0 M0 o ρ ob (.v .pl (.sl (List.replicate n.toNat (.sc u)))) :=
 aJ fun E w ev hw hh=>by
   obtain⟨h0,hb,hm⟩:=h;obtain⟨i,zz,hi,hzz,hsz,hby,hzs,hk0,hck⟩:=gK hel;have hzc:zz.cells.toList=[u]:=by
     unfold zeroOf at hz;rw[hi] at hz;simp only[ach,hzz,abu,aaB] at hz;exact hz
   have hx':ev x=.int q n:=bZ hh hx;have hy':ev y=.int q' n:=bZ hh hy;obtain⟨w',hrun,hown,hg⟩:=run_make_full (P:=P) w w.heap.size T e i zz 1 hT hi hzz hsz q q' n.toNat (by rw[hby];exact hb) (by simp only[maxLen];omega) (aaD _);rw[Int.toNat_of_nonneg adh] at hrun;have hcells:(madeCells zz.cells (n.toNat*1)).toList=List.replicate n.toNat u:=by
     have hzc':zz.cells=#[u]:=by rw[←Array.toList_inj];simpa using hzc
     rw[hzc',ab8];apply abJ;intro j;simp only[madeCells,acZ,aaI,acj];rcases aa9 j n.toNat with h|h
     · simp[h,Nat.mod_one]
     · rw[if_neg adh];simp;omega
   rw[hcells] at hown;obtain⟨g1,g2,g3,g4,g5⟩:=hg;have hbl:bD w0.dr w.heap.size w w':=⟨⟨g1,g2,g3,g4,fun k hk=>g5 k hk (by simp)⟩,fun _=>lP _ _ _ _ hrun⟩;refine⟨_,w',by simp only[execOp,ho,hx',hy',Sem.run_bind,hrun,Result.andThen_ok,Sem.run_pure];rfl,hbl,?_⟩;obtain⟨hl,hq⟩:=hown;rcases hq with⟨hv,_⟩|⟨g,cap,cur,hv,hgb,hh2,hnc,hcm,hcs,ht⟩
   · cases hv
   · simp only [Value.slice.injEq, aaB, Addr.mk.injEq] at hv
     obtain⟨⟨rfl,_⟩,_,rfl⟩:=hv;have hsz':w.heap.size<w'.heap.size:=by
       rcases aa9 w.heap.size w'.heap.size with h|h
       · exact h
       · rw[acF adh] at hh2;cases hh2
     have hfl:flat (List.replicate n.toNat (AV.sc u))=List.replicate n.toNat (AV.sc u):=by
       generalize n.toNat=m
       induction m with
       | zero=>rfl
       | succ m ih=>simp only[ac2,flat,abQ] at ih ⊢;rw[ih];rfl
     refine .sl _ _ _ _ 1 (fun _=>u) (by rw[acU]) (aaD _) (fun z hz=>by rw[List.eq_of_mem_replicate hz];rfl) (fun _=>⟨_,0,rfl,fun hM=>?_,hsz',fun j hj=>?_⟩) (fun j d hd=>?_) (fun j d hd=>?_)
     · rcases hM with hM | hM
       · have:=ae _ hM;have:=hw.below.size;omega
       · have:=(hw.bH hM).2;omega
     · rw [cell_of_row _ w.heap.size (0 + j) _ e (0, 0) hh2, abL]
       have hj2:j<n.toNat:=adh;have h3:(cur.toList.take (n.toNat*1))[j]?=some u:=by rw[ht,acj,if_pos hj2]
       rw[List.getElem?_take_of_lt adh] at h3;simpa using h3
     · rw [hfl, acj] at hd
       split at hd
       · cases hd;rfl
       · cases hd
     · rw [hfl, acj] at hd
       split at hd
       · cases hd;exact .sc _ hu
       · cases hd
end
end Go.Am
