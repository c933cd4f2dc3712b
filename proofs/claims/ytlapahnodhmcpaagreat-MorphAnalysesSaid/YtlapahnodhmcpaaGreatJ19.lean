/-
  Part of the proof.
-/
import Derived.Test.YtlapahnodhmcpaaGreatJ0
import Derived.Test.YtlapahnodhmcpaaGreatJ14
import Derived.Test.YtlapahnodhmcpaaGreatJ15
import Derived.Test.YtlapahnodhmcpaaGreatJ18
import Derived.Test.YtlapahnodhmcpaaGreatJ6
import Derived.Test.YtlapahnodhmcpaaGreatRows
import Derived.Shelf.SlGeneric
import Derived.Shelf.SlSortCmp.NoneTotal
import Derived.Shelf.SortM.Plain
import Derived.Shelf.SortM.SortNone
import Derived.Ground.SlsfProg
import Derived.Ground.SlgmProg
import Derived.Ground.SlgnProg
import Derived.Shelf.SlicesQ.Reverse
set_option linter.unusedVariables false
set_option linter.unusedSectionVars false
set_option linter.unusedSimpArgs false
set_option maxRecDepth 100000
set_option maxHeartbeats 40000000
namespace Go.We
open Go.Am
theorem Ml {α:Type}{n i:Nat}{x:α}(h:i<n):(List.replicate n x)[i]?=some x:=by rw[List.getElem?_replicate,if_pos h]
def br (T:TypeId)(m:List (List Bool)):List Cell:=m.map fun r=>Cell.row T (r.map bool)
theorem cB (T:TypeId)(m:List (List Bool)):(br T m).length=m.length:=by unfold br;rw[Z0]
def fM (N:Nat)(g:Nat→Bool):List Bool:=(List.range N).map g
def b8 (N:Nat)(f:Nat→Nat→Bool):List (List Bool):=(List.range N).map fun i=>fM N (f i)
abbrev Mm (l:List Bool):AV:=.sl (l.map bool)
abbrev pN (m:List (List Bool)):AV:=.sl (m.map Mm)
theorem bH (N:Nat)(g:Nat→Bool):(fM N g).length=N:=by unfold fM;simp
theorem cG (N:Nat)(f:Nat→Nat→Bool):(b8 N f).length=N:=by unfold b8;simp
section
variable {N i j:Nat}{f f':Nat→Nat→Bool}{g g':Nat→Bool}{T:TypeId}
theorem fp (h:j<N):(fM N g).getD j default=g j:=by
 unfold fM;rw[ZY,Z6,aa5 h];rfl
theorem kE (h:i<N):(b8 N f).getD i default=fM N (f i):=by
 unfold b8;rw[ZY,Z6,aa5 h];rfl
theorem wg (h:i<N):(br T (b8 N f))[i]?=some (.row T ((fM N (f i)).map bool)):=by
 unfold br b8;rw[Z6,Z6,aa5 h];rfl
theorem ij (h:∀j,j<N→g j=g' j):fM N g=fM N g':=ab3 fun j hj=>h j (aap.1 hj)
theorem iY (h:∀i j,i<N→j<N→f i j=f' i j):b8 N f=b8 N f':=ab3 fun i hi=>ij fun j hj=>h i j (aap.1 hi) hj
theorem jZ {v:Bool}(hj:j<N)(h:∀k,k<N→g' k=if k=j then v else g k):((fM N g).map bool).set j (bool v)=(fM N g').map bool:=by
 rw[←List.map_set]
 congr 1
 unfold fM
 refine List.ext_getElem (by simp) fun k h1 h2=>?_
 have hk:k<N:=by simpa using h2
 rw[List.getElem_set,abL,abL,List.getElem_range,h k hk]
 by_cases q:j=k
 ·rw[if_pos q,if_pos q.symm]
 ·rw[if_neg q,if_neg (aaX q)]
theorem qE (hi:i<N)(h:∀k l,k<N→l<N→f' k l=if k=i then g l else f k l):(br T (b8 N f)).set i (.row T ((fM N g).map bool))=br T (b8 N f'):=by
 unfold br b8
 refine List.ext_getElem (by simp) fun k h1 h2=>?_
 have hk:k<N:=by simpa using h2
 rw[List.getElem_set]
 simp only[abL,List.getElem_range]
 by_cases q:i=k
 ·rw[if_pos q];congr 2;exact ij fun l hl=>by rw[h k l hk hl,if_pos q.symm]
 ·rw[if_neg q];congr 2;exact ij fun l hl=>by rw[h k l hk hl,if_neg (aaX q)]
end
def DD (q:Bool)(i j:Nat):Bool:=decide (j=i)&&q
theorem Pc (T:TypeId)(n:Nat)(q:Bool){i:Nat}(hi:i<n+1):br T ((List.range (i+1)).map fun i=>fM (n+1) (DD q i))=br T ((List.range i).map fun i=>fM (n+1) (DD q i))++[.row T ((List.replicate (n+1) (bool false)).set i (bool q))]:=by
 unfold br
 rw[aaP,Z8,Z8]
 congr 1
 simp only[aaL,aa9]
 rw[show List.replicate (n+1) (bool false)=(fM (n+1) fun _=>false).map bool from(by unfold fM;refine List.ext_getElem (by simp) fun k h1 h2=>?_;simp),jZ (g':=DD q i) hi fun k hk=>by
  unfold DD
  by_cases q1:k=i
  ·rw[if_pos q1,decide_eq_true q1];simp
  ·rw[if_neg q1,decide_eq_false q1];rfl]
def oz (a b:Nat→Nat→Bool)(i k j:Nat):Bool:=(List.range k).any fun l=>decide (i≤l)&&decide (l≤j)&&a i l&&b l j
def TQ (N:Nat)(a b:Nat→Nat→Bool)(i j:Nat):Bool:=oz a b i N j
theorem Mn (a b:Nat→Nat→Bool)(i k j:Nat):oz a b i (k+1) j=(oz a b i k j||(decide (i≤k)&&decide (k≤j)&&a i k&&b k j)):=by
 unfold oz;rw[aaP,ab8];simp
theorem Jf (a b:Nat→Nat→Bool)(i j:Nat):oz a b i i j=false:=by
 unfold oz
 rw[abe]
 intro l hl
 have:=aap.1 hl
 rw[decide_eq_false (show ¬i≤l by omega)];simp
def Cy (a b:Nat→Nat→Bool)(i k j l:Nat):Bool:=oz a b i k l||(decide (k≤l)&&decide (l<j)&&a i k&&b k l)
theorem Jg (a b:Nat→Nat→Bool)(i k l:Nat):Cy a b i k k l=oz a b i k l:=by
 unfold Cy
 by_cases h:k≤l
 ·rw[decide_eq_false (show ¬l<k by omega)];simp
 ·rw[decide_eq_false h];simp
theorem Pd {a b:Nat→Nat→Bool}{i k j l:Nat}(hi:i≤k)(h:l<j∨a i k=false):Cy a b i k j l=oz a b i (k+1) l:=by
 unfold Cy
 rw[Mn,decide_eq_true hi]
 rcases h with h|h
 ·rw[decide_eq_true h];simp
 ·rw[h];simp
theorem DE {a b:Nat→Nat→Bool}{i k j l:Nat}(hk:k≤j)(ha:a i k=true):Cy a b i k (j+1) l=if l=j then(Cy a b i k j j||b k j) else Cy a b i k j l:=by
 by_cases h:l=j
 ·subst h
  rw[if_pos rfl]
  unfold Cy
  rw[decide_eq_true hk,decide_eq_true (show l<l+1 by omega),decide_eq_false (show ¬l<l by omega),ha];simp
 ·rw[if_neg h]
  unfold Cy
  rw[show decide (l<j+1)=decide (l<j) from decide_eq_decide.2 ace]
def Jh (N:Nat)(a b:Nat→Nat→Bool)(i k l:Nat):Bool:=decide (k<i)&&TQ N a b k l
end Go.We
namespace Go.Am
open Go.RowKit Go.MapKept Go.ChangeMaps
section
variable {P:Program} {w0:Fr}{M0:Nat→Prop}
variable {o:Oper} {ρ:Operand→Option SV}{ob:List (Nat×Ob)}{x y z:Operand}{T T' e:TypeId}{k b:Nat}{c:fQ}{id off:Nat}{s:St}{t:Nat}
end
end Go.Am
namespace Go.We
open Go.Am Go.Wb
noncomputable def pB (p:Prop):Bool:=@decide p (Classical.propDecidable p)
theorem ku {p:Prop}:pB p=true↔p:=by unfold pB;exact @decide_eq_true_iff p (Classical.propDecidable p)
theorem Ae {p:Prop}{b:Bool}(h:b=true↔p):b=pB p:=abE.2 (h.trans ku.symm)
def sg (w:List Int)(i j:Nat):List Int:=(w.drop i).take (j-i)
theorem Hz (w:List Int)(i:Nat):sg w i i=[]:=by unfold sg;rw[abQ];rfl
theorem DF {w:List Int}{i l j:Nat}(h1:i≤l)(h2:l≤j):sg w i j=sg w i l++sg w l j:=by
 unfold sg
 rw[show j-i=(l-i)+(j-l) by omega,List.take_add,List.drop_drop,show i+(l-i)=l by omega]
theorem FR {w:List Int}{i j:Nat}(h1:i≤j)(h2:j≤w.length):(sg w i j).length=j-i:=by
 unfold sg;rw[aaa,aad];omega
theorem Mo {w:List Int}{i:Nat}(h:i<w.length):sg w i (i+1)=[w.getD i default]:=by
 unfold sg
 rw[show i+1-i=1 by omega,abh h,ZY,Z3 h];rfl
theorem DG {w u v:List Int}{i j:Nat}(h1:i≤j)(h2:j≤w.length)(h:sg w i j=u++v):∃l,i≤l∧l≤j∧u=sg w i l∧v=sg w l j:=by
 have hl:=congrArg List.length h
 rw[FR h1 h2,aab] at hl
 refine⟨i+u.length,ace,ace,?_,?_⟩
 ·have e:=congrArg (List.take u.length) h
  rw[List.take_left' rfl] at e
  refine e.symm.trans ?_
  unfold sg
  rw[List.take_take,show min u.length (j-i)=i+u.length-i by omega]
 ·have e:=congrArg (List.drop u.length) h
  rw[List.drop_left' rfl] at e
  refine e.symm.trans ?_
  unfold sg
  rw[List.drop_take,List.drop_drop,show j-i-u.length=j-(i+u.length) by omega]
theorem SA (w:List Int):sg w 0 w.length=w:=by unfold sg;simp
noncomputable def qQ (w:List Int)(r:Rx)(i j:Nat):Bool:=pB (i≤j∧e7 r (sg w i j))
def Kw (r:Rx)(m:Nat)(u:List Int):Prop:=if r.kind=1 then u=[] else if r.kind=2 then ∃a,u=[a]∧a∈r.syms else if r.kind=3 then j7 (r.kids.take m) u else if r.kind=4 then yY (r.kids.take m) u else if r.kind=5 then(if m=0 then u=[] else dJ (e7 (r.kids.getD 0 default)) u) else False
noncomputable def KF (w:List Int)(r:Rx)(m i j:Nat):Bool:=pB (i≤j∧Kw r m (sg w i j))
theorem Pe {a b:Nat→Nat→Bool}{i k j:Nat}:oz a b i k j=true↔∃l,l<k∧i≤l∧l≤j∧a i l=true∧b l j=true:=by
 unfold oz
 rw[aay]
 constructor
 ·rintro⟨l,hl,h⟩
  simp only[aae,decide_eq_true_eq] at h
  exact⟨l,aap.1 hl,h.1.1.1,h.1.1.2,h.1.2,h.2⟩
 ·rintro⟨l,h1,h2,h3,h4,h5⟩
  refine⟨l,aap.2 h1,?_⟩
  simp only[aae,decide_eq_true_eq]
  exact⟨⟨⟨h2,h3⟩,h4⟩,h5⟩
section
variable {w:List Int}{r:Rx}{m i j:Nat}
theorem Mp (h:r.kind=3)(u:List Int):Kw r m u↔j7 (r.kids.take m) u:=by unfold Kw;rw[if_neg ace,if_neg ace,if_pos h]
theorem Pf (h:r.kind=4)(u:List Int):Kw r m u↔yY (r.kids.take m) u:=by unfold Kw;rw[if_neg ace,if_neg ace,if_neg ace,if_pos h]
theorem SB (h:r.kind=5)(u:List Int):Kw r m u↔(if m=0 then u=[] else dJ (e7 (r.kids.getD 0 default)) u):=by unfold Kw;rw[if_neg ace,if_neg ace,if_neg ace,if_neg ace,if_pos h]
theorem Af (hm:m<r.kids.length):r.kids.take (m+1)=r.kids.take m++[r.kids.getD m default]:=by
 rw[List.take_add_one,Z3 hm,ZY,Z3 hm];rfl
theorem Xc (h:r.kind=3)(hm:m<r.kids.length)(hj:j<w.length+1):TQ (w.length+1) (KF w r m) (qQ w (r.kids.getD m default)) i j=KF w r (m+1) i j:=by
 refine Ae ?_
 unfold TQ
 rw[Pe,Mp h,Af hm,pL]
 constructor
 ·rintro⟨l,h1,h2,h3,h4,h5⟩
  obtain⟨_,h4⟩:=ku.1 h4
  obtain⟨_,h5⟩:=ku.1 h5
  exact⟨ace,_,_,DF h2 h3,(Mp h _).1 h4,(iX _ _).2 h5⟩
 ·rintro⟨h1,u,v,h2,h3,h4⟩
  obtain⟨l,q1,q2,rfl,rfl⟩:=DG h1 ace h2
  exact⟨l,ace,q1,q2,ku.2 ⟨q1,(Mp h _).2 h3⟩,ku.2 ⟨q2,(iX _ _).1 h4⟩⟩
theorem Xd (h:r.kind=4)(hm:m<r.kids.length):(KF w r m i j||qQ w (r.kids.getD m default) i j)=KF w r (m+1) i j:=by
 refine Ae ?_
 rw[aaO,Pf h,Af hm,gr]
 unfold KF qQ
 rw[ku,ku,Pf h,gr]
 constructor
 ·rintro(⟨h1,x,h2,h3⟩|⟨h1,h2⟩)
  ·exact⟨h1,x,abA _ h2,h3⟩
  ·exact⟨h1,_,aby _ (aag.2 rfl),h2⟩
 ·rintro⟨h1,x,h2,h3⟩
  rcases aaC.1 h2 with h2|h2
  ·exact .inl ⟨h1,x,h2,h3⟩
  ·rw[aag.1 h2] at h3;exact .inr ⟨h1,h3⟩
theorem FT (h1:i≤j)(h2:j≤w.length):sg w i j=[]↔j=i:=by
 constructor
 ·intro h
  have:=FR h1 h2
  rw[h] at this
  simp at this;omega
 ·rintro rfl;exact Hz w _
theorem Um (h:r.kind=0∨r.kind=1∨r.kind=3∨r.kind=4∨r.kind=5)(hj:j<w.length+1):DD (decide (r.kind=1)||(decide (r.kind=3)||decide (r.kind=5))) i j=KF w r 0 i j:=by
 refine Ae ?_
 unfold DD
 simp only[aae,decide_eq_true_eq,aaO]
 have key:i≤j∧sg w i j=[]↔j=i:=⟨fun⟨h1,h2⟩=>(FT h1 ace).1 h2,fun h=>⟨ace,(FT ace ace).2 h⟩⟩
 rcases h with h|h|h|h|h
 ·simp[Kw,h]
 ·simp only[Kw,h]
  simp only[if_true]
  rw[key];simp
 ·rw[Mp h,acd,ig,key];simp[h]
 ·rw[Pf h,acd,gr];simp[h]
 ·rw[SB h,if_pos rfl,key];simp[h]
def Re (w:List Int)(s:List Int)(i j:Nat):Bool:=decide (j=i+1)&&decide (w.getD i default∈s)
theorem Xe (h:r.kind=2)(hi:i<w.length+1)(hj:j<w.length+1):Re w r.syms i j=KF w r m i j:=by
 refine Ae ?_
 unfold Re
 rw[aae,decide_eq_true_eq,decide_eq_true_eq]
 unfold Kw
 rw[if_neg ace,if_pos h]
 constructor
 ·rintro⟨rfl,h2⟩
  exact⟨ace,_,Mo ace,h2⟩
 ·rintro⟨h1,a,h2,h3⟩
  have e:=FR h1 (show j≤w.length by omega)
  rw[h2] at e
  have e':j=i+1:=by simp at e;omega
  subst e'
  rw[Mo ace] at h2
  injection h2 with h2
  exact⟨rfl,by rw[h2];exact h3⟩
end
def pO (x:Nat→Nat→Bool)(i:Nat):Nat→Nat→Bool
 | 0,l=>decide (l=i)
 | k+1,l=>pO x i k l||(decide (i≤k)&&decide (k≤l)&&pO x i k k&&x k l)
theorem xK {x:Nat→Nat→Bool}{i k k' l:Nat}(h:k≤k')(hs:pO x i k l=true):pO x i k' l=true:=by
 induction k' with
 | zero=>rw[show k=0 by omega] at hs;exact hs
 | succ k' ih =>
   by_cases q:k=k'+1
   · rw[←q];exact hs
   · rw[pO,ih ace,Bool.true_or]
theorem Mq {x:Nat→Nat→Bool}{i:Nat}:∀{k l:Nat},pO x i k l=true→i≤l
 | 0,l,h=>by have:=of_decide_eq_true h;omega
 | k + 1, l, h => by
   rw[pO,aaO] at h
   rcases h with h|h
   · exact Mq h
   · simp only[aae,decide_eq_true_eq] at h;omega
theorem BD {w:List Int}{y:Rx}{i:Nat}:∀{k l:Nat},pO (qQ w y) i k l=true→dJ (e7 y) (sg w i l)
 | 0,l,h=>by rw[of_decide_eq_true h,Hz];exact .nil
 | k + 1, l, h => by
   rw[pO,aaO] at h
   rcases h with h|h
   · exact BD h
   · simp only [aae, decide_eq_true_eq] at h
     obtain⟨⟨⟨h1,h2⟩,h3⟩,h4⟩:=h
     obtain⟨_,h4⟩:=ku.1 h4
     rw[DF h1 h2]
     have key:∀{P:List Int→Prop}{u v:List Int},dJ P u→P v→dJ P (u++v):=fun hu hv=>by
       induction hu with
       | nil=>have:=dJ.cons hv .nil;rwa [aav] at this
       | cons h1 _ ih=>rw[aaI];exact .cons h1 ih
     exact key (BD h3) h4
theorem Pg {w:List Int}{y:Rx}{i N:Nat}(hN:N=w.length+1){u:List Int}(h:dJ (e7 y) u):∀{p l:Nat},i≤p→p≤l→l<N→u=sg w p l→pO (qQ w y) i p p=true→pO (qQ w y) i N l=true:=by
 induction h with
 | nil =>
   intro p l h1 h2 h3 h4 h5
   have:=(FT (w:=w) h2 ace).1 h4.symm
   subst this
   exact xK ace h5
 | @cons u v hu hv ih =>
   intro p l h1 h2 h3 h4 h5
   obtain⟨q,q1,q2,rfl,rfl⟩:=DG h2 ace h4.symm
   refine ih (p:=q) ace q2 h3 J ?_
   by_cases e:q=p
   · rw[e];exact h5
   · refine xK (k := p + 1) ace ?_
     rw[pO,aaO]
     refine .inr ?_
     simp only[aae,decide_eq_true_eq]
     exact⟨⟨⟨h1,q1⟩,h5⟩,ku.2 ⟨q1,hu⟩⟩
theorem Ji {x:Nat→Nat→Bool}{i:Nat}:pO x i i i=true:=xK (k:=0) (Z5 _) (decide_eq_true rfl)
theorem Xf {w:List Int}{r:Rx}{i j:Nat}(h:r.kind=5)(hj:j<w.length+1):pO (qQ w (r.kids.getD 0 default)) i (w.length+1) j=KF w r 1 i j:=by
 refine Ae ?_
 rw[SB h,if_neg acg]
 constructor
 ·exact fun hs=>⟨Mq hs,BD hs⟩
 ·exact fun⟨h1,h2⟩=>Pg rfl h2 (Z1 i) h1 hj rfl Ji
theorem SC {w:List Int}{r:Rx}{i j:Nat}(hk:0≤r.kind∧r.kind≤5)(h5:r.kind=5→r.kids.length=1):KF w r r.kids.length i j=qQ w r i j:=by
 refine Ae (ku.trans ?_)
 rw[and_congr_right_iff]
 intro _
 rcases(by omega:r.kind=0∨r.kind=1∨r.kind=2∨r.kind=3∨r.kind=4∨r.kind=5) with h|h|h|h|h|h
 ·exact⟨fun q=>by simp[Kw,h] at q,fun q=>(mJ h _ q).elim⟩
 ·rw[lZ h];simp[Kw,h]
 ·rw[nF h];simp[Kw,h]
 ·rw[vi h,Mp h,aa1]
 ·rw[s6 h,Pf h,aa1]
 ·have hl:=h5 h
  rw[vj h,SB h,if_neg ace]
  match hk:r.kids,hl with
  | [x],_=>rw[l3];rfl
theorem xL (T:TypeId)(m:List (List Bool)):(br T m).map Cell.av=m.map Mm:=by unfold br;rw[abY];rfl
section
variable {a x:Nat→Nat→Bool}{N i k j l:Nat}
def DH (a x:Nat→Nat→Bool)(i k l:Nat):Bool:=a i l||(decide (l<k)&&x i l)
def Mr (a x:Nat→Nat→Bool)(i k l:Nat):Bool:=a k l||(decide (k<i)&&x k l)
theorem Jj:DH a x i 0 l=a i l:=by unfold DH;simp
theorem Ph (h:l<N):DH a x i N l=(a i l||x i l):=by unfold DH;rw[decide_eq_true h];simp
theorem DI:DH a x i (k+1) l=if l=k then(DH a x i k k||x i k) else DH a x i k l:=by
 unfold DH
 by_cases h:l=k
 ·subst h;rw[if_pos rfl,decide_eq_true (show l<l+1 by omega),decide_eq_false (show ¬l<l by omega)];simp
 ·rw[if_neg h,show decide (l<k+1)=decide (l<k) from decide_eq_decide.2 ace]
theorem Jk:Mr a x 0 k l=a k l:=by unfold Mr;simp
theorem Pj (h:k<N):Mr a x N k l=(a k l||x k l):=by unfold Mr;rw[decide_eq_true h];simp
theorem Ms:Mr a x i i l=a i l:=by unfold Mr;simp
theorem Mt:Mr a x (i+1) k l=if k=i then(a i l||x i l) else Mr a x i k l:=by
 unfold Mr
 by_cases h:k=i
 ·subst h;rw[if_pos rfl,decide_eq_true (show k<k+1 by omega)];simp
 ·rw[if_neg h,show decide (k<i+1)=decide (k<i) from decide_eq_decide.2 ace]
def yK (x:Nat→Nat→Bool)(i k j l:Nat):Bool:=pO x i k l||(decide (k≤l)&&decide (l<j)&&pO x i k k&&x k l)
def Mu (N:Nat)(x:Nat→Nat→Bool)(i k l:Nat):Bool:=if k<i then pO x k N l else decide (l=k)
theorem Rf:∀ {k:Nat},k≤i→pO x i k l=decide (l=i)
 | 0,_=>rfl
 | k+1,h=>by rw[pO,Rf ace,decide_eq_false (show ¬i≤k by omega)];simp
theorem Jl:yK x i k k l=pO x i k l:=by
 unfold yK
 by_cases h:k≤l
 ·rw[decide_eq_false (show ¬l<k by omega)];simp
 ·rw[decide_eq_false h];simp
theorem Mv:yK x i k j k=pO x i k k:=by
 unfold yK
 cases pO x i k k<;>simp
theorem Pk (hi:i≤k)(h:l<j∨pO x i k k=false):yK x i k j l=pO x i (k+1) l:=by
 unfold yK
 rw[pO,decide_eq_true hi]
 rcases h with h|h
 ·rw[decide_eq_true h];simp
 ·rw[h];simp
theorem DJ (hk:k≤j)(ha:pO x i k k=true):yK x i k (j+1) l=if l=j then(yK x i k j j||x k j) else yK x i k j l:=by
 by_cases h:l=j
 ·subst h
  rw[if_pos rfl]
  unfold yK
  rw[decide_eq_true hk,decide_eq_true (show l<l+1 by omega),decide_eq_false (show ¬l<l by omega),ha];simp
 ·rw[if_neg h]
  unfold yK
  rw[show decide (l<j+1)=decide (l<j) from decide_eq_decide.2 ace]
theorem Jm:Mu N x 0 k l=DD true k l:=by unfold Mu DD;simp
theorem Mw:Mu N x i i l=decide (l=i):=by unfold Mu;rw[if_neg (Nat.lt_irrefl i)]
theorem Pm (h:k<N):Mu N x N k l=pO x k N l:=by unfold Mu;rw[if_pos h]
theorem Mx:Mu N x (i+1) k l=if k=i then pO x i N l else Mu N x i k l:=by
 unfold Mu
 by_cases h:k=i
 ·subst h;rw[if_pos ace,if_pos rfl]
 ·rw[if_neg h]
  by_cases q:k<i
  ·rw[if_pos q,if_pos ace]
  ·rw[if_neg q,if_neg ace]
def DK (w s:List Int)(i k l:Nat):Bool:=decide (l=i+1)&&decide (w.getD i default∈s.take k)
def Ky (w s:List Int)(i k l:Nat):Bool:=decide (k<i)&&Re w s k l
theorem Jn {w s:List Int}:DK w s i 0 l=false:=by unfold DK;simp
theorem Pn {w s:List Int}(h:s.length≤k):DK w s i k l=Re w s i l:=by unfold DK Re;rw[aaj h]
theorem DL {w s:List Int}(h:k<s.length):DK w s i (k+1) l=if l=i+1 then(DK w s i k (i+1)||decide (s.getD k default=w.getD i default)) else DK w s i k l:=by
 unfold DK
 by_cases q:l=i+1
 ·subst q
  rw[if_pos rfl,decide_eq_true rfl,aaZ,aaZ,List.take_add_one,Z3 h,ZY (l:=s),Z3 h]
  refine abE.2 ?_
  simp only[Option.toList_some,aaC,aag,decide_eq_true_eq,aaO,abK]
  exact or_congr_right eq_comm
 ·rw[if_neg q,decide_eq_false q];rfl
theorem Jo {w s:List Int}:Ky w s 0 k l=DD false k l:=by unfold Ky DD;simp
theorem My {w s:List Int}:Ky w s i i l=false:=by unfold Ky;simp
theorem Po {w s:List Int}(h:k<i):Ky w s i k l=Re w s k l:=by unfold Ky;rw[decide_eq_true h];rfl
theorem Mz {w s:List Int}:Ky w s (i+1) k l=if k=i then Re w s i l else Ky w s i k l:=by
 unfold Ky
 by_cases h:k=i
 ·subst h;rw[if_pos rfl,decide_eq_true (show k<k+1 by omega)];rfl
 ·rw[if_neg h,show decide (k<i+1)=decide (k<i) from decide_eq_decide.2 ace]
end
theorem qG {r:Rx}(h:aQ r=true):(0≤r.kind∧r.kind≤5)∧(r.kind=5→r.kids.length=1)∧(r.kind=0∨r.kind=1∨r.kind=2→r.kids.length=0):=by
 have hk:0≤r.kind∧r.kind≤5:=by
  by_cases q:r.kind<0∨5<r.kind
  ·rw[tV q] at h;cases h
  ·omega
 refine⟨hk,fun q=>?_,fun q=>?_⟩
 ·rw[iW q] at h
  simp only[aae,decide_eq_true_eq] at h
  exact h.2.1
 ·rcases q with q|q|q
  ·rw[jC (.inl q)] at h;simp only[aae,decide_eq_true_eq] at h;exact h.2
  ·rw[jC (.inr q)] at h;simp only[aae,decide_eq_true_eq] at h;exact h.2
  ·rw[lU q] at h;simp only[aae,decide_eq_true_eq] at h;exact h.1
theorem FU {r:Rx}(h:aQ r=true){m:Nat}(hm:m<r.kids.length):aQ (r.kids.getD m default)=true:=by
 obtain⟨h1,h2,h3⟩:=qG h
 rcases(by omega:(r.kind=0∨r.kind=1∨r.kind=2)∨(r.kind=3∨r.kind=4)∨r.kind=5) with q|q|q
 ·have:=h3 q;omega
 ·rw[lE q] at h
  simp only[aae,aaJ,abe,Bool.not_eq_true,Bool.not_eq_false'] at h
  have:=h.2 _ (aP hm)
  simpa using this
 ·have:=h2 q
  have e:m=0:=ace
  subst e
  rw[iW q] at h
  simp only[aae,decide_eq_true_eq] at h
  exact h.2.2
section
variable {w:List Int}{r:Rx}{i m:Nat}
abbrev qF (r:Rx):Bool:=decide (r.kind=1)||(decide (r.kind=3)||decide (r.kind=5))
theorem Xg (h:r.kind=1):qF r=true:=by simp[qF,h]
theorem Xh (h:r.kind=3):qF r=true:=by simp[qF,h]
theorem Xi (h:r.kind≠1)(h3:r.kind≠3):qF r=decide (r.kind=5):=by simp[qF,h,h3]
noncomputable def f0 (w:List Int)(r:Rx)(i:Nat):Nat→Nat→Bool:=if r.kind=2 then Ky w r.syms i else DD (qF r)
theorem MA:b8 (w.length+1) (DD (qF r))=b8 (w.length+1) (f0 w r 0):=iY fun k l _ _=>by
 unfold f0
 by_cases h:r.kind=2
 ·rw[if_pos h,Jo,show qF r=false from by simp[qF,h]]
 ·rw[if_neg h]
theorem BE (h:r.kind=2):f0 w r i=Ky w r.syms i:=if_pos h
theorem SD (hk:0≤r.kind∧r.kind≤5)(h:r.kind≠2→i=0)(hx:r.kind=2→i=w.length):b8 (w.length+1) (f0 w r i)=b8 (w.length+1) (KF w r 0):=iY fun k l hkk hl=>by
 by_cases q:r.kind=2
 ·rw[BE q,hx q,←Xe q hkk hl]
  by_cases e:k<w.length
  ·exact Po e
  ·unfold Ky Re
   rw[decide_eq_false e,decide_eq_false (show ¬l=k+1 by omega)];rfl
 ·unfold f0
  rw[if_neg q]
  exact Um ace hl
noncomputable def f1 (w:List Int)(r:Rx)(m:Nat):Nat→Nat→Bool:=if r.kind=3 then KF w r (m+1) else KF w r m
noncomputable def f2 (w:List Int)(r:Rx)(m:Nat):Nat→Nat→Bool:=if r.kind=3∨r.kind=4 then KF w r (m+1) else KF w r m
noncomputable abbrev eC (w:List Int)(r:Rx)(m:Nat):Nat→Nat→Bool:=qQ w (r.kids.getD m default)
noncomputable def a4 (w:List Int)(r:Rx)(m i:Nat):Nat→Nat→Bool:=if r.kind=4 then Mr (KF w r m) (eC w r m) i else f1 w r m
noncomputable def a6 (w:List Int)(r:Rx)(m i:Nat):Nat→Nat→Bool:=if r.kind=5 then Mu (w.length+1) (eC w r m) i else f2 w r m
theorem Xj (h:r.kind=3)(hm:m<r.kids.length):b8 (w.length+1) (TQ (w.length+1) (KF w r m) (eC w r m))=b8 (w.length+1) (f1 w r m):=iY fun k l _ hl=>by
 unfold f1;rw[if_pos h];exact Xc h hm hl
theorem Un (h:r.kind≠3):f1 w r m=KF w r m:=if_neg h
theorem MB:b8 (w.length+1) (f1 w r m)=b8 (w.length+1) (a4 w r m 0):=iY fun k l _ _=>by
 unfold a4
 by_cases h:r.kind=4
 ·rw[if_pos h,Jk,Un ace]
 ·rw[if_neg h]
theorem wh (h:r.kind=4):a4 w r m i=Mr (KF w r m) (eC w r m) i:=if_pos h
theorem SE (hm:m<r.kids.length)(h:r.kind≠4→i=0)(hx:r.kind=4→i=w.length+1):b8 (w.length+1) (a4 w r m i)=b8 (w.length+1) (f2 w r m):=iY fun k l hk _=>by
 by_cases q:r.kind=4
 ·rw[wh q,hx q,Pj hk]
  unfold f2
  rw[if_pos (.inr q)]
  exact Xd q hm
 ·unfold a4 f1 f2
  rw[if_neg q]
  by_cases q3:r.kind=3
  ·rw[if_pos q3,if_pos (.inl q3)]
  ·rw[if_neg q3,if_neg ace]
theorem MC (h5:r.kind=5→r.kids.length=1)(hm:m<r.kids.length):b8 (w.length+1) (f2 w r m)=b8 (w.length+1) (a6 w r m 0):=iY fun k l _ hl=>by
 unfold a6
 by_cases h:r.kind=5
 ·have:=h5 h
  have e:m=0:=ace
  subst e
  rw[if_pos h,Jm]
  unfold f2
  rw[if_neg ace,←Um ace hl]
  congr 1
  simp[h]
 ·rw[if_neg h]
theorem wi (h:r.kind=5):a6 w r m i=Mu (w.length+1) (eC w r m) i:=if_pos h
theorem SF (hv : aQ r = true)(hm : m < r.kids.length)(h : r.kind ≠ 5 → i = 0)(hx : r.kind = 5 → i = w.length + 1) : b8 (w.length + 1) (a6 w r m i) = b8 (w.length + 1) (KF w r (m + 1)) := iY fun k l hk hl => by
 obtain⟨h1,h2,h3⟩:=qG hv
 by_cases q:r.kind=5
 · have := h2 q
   have e:m=0:=ace
   subst e
   rw[wi q,hx q,Pm hk]
   exact Xf q hl
 · unfold a6 f2
   rw [if_neg q, if_pos (by have : ¬ (r.kind = 0 ∨ r.kind = 1 ∨ r.kind = 2) := fun h => by have := h3 h; omega
                            omega)]
theorem SH (hv:aQ r=true):b8 (w.length+1) (KF w r r.kids.length)=b8 (w.length+1) (qQ w r):=iY fun k l _ _=>by
 obtain⟨h1,h2,h3⟩:=qG hv
 exact SC h1 h2
end
end Go.We
namespace Go.Wc
def order:List Int→List Int→Int
 | [],[]=>0
 | [],_ :: _=>-1
 | _ :: _,[]=>1
 | x :: xs,y :: ys=>if x<y then -1 else if y<x then 1 else order xs ys
open Go.Am
def Xk (n:Int):Prop:=-9223372036854775808≤n∧n≤9223372036854775807
def iM (l:List Int):Prop:=∀x∈l,Xk x
theorem iM.get {l:List Int}(h:iM l)(k:Nat):Xk (l.getD k default):=by
 rw[ZY]
 cases hk:l[k]? with
 | none=>exact⟨by decide,by decide⟩
 | some x=>exact h x (aaA hk)
theorem iM.take {l:List Int}(h:iM l)(k:Nat):iM (l.take k):=fun x hx=>h x (aa6 hx)
theorem take_succ {α:Type} [Inhabited α]{l:List α}{k:Nat}(h:k<l.length):l.take (k+1)=l.take k++[l.getD k default]:=by
 rw[List.take_succ_eq_append_getElem h,ZY,Z3 h];rfl
def pP (n most:Int):Int:=(if n<0 then -(n+1) else n) % most
theorem um {n most:Int}(h:0<most):0≤pP n most∧pP n most<most:=⟨Int.emod_nonneg _ ace,ab6 _ h⟩
def mr (l:List Int)(i most:Int):Int:=if i<0∨(l.length:Int)≤i then 0 else pP (l.getD i.toNat default) most
theorem k9 {l:List Int}{i most:Int}(h:0<most):0≤mr l i most∧mr l i most<most:=by
 unfold mr;split
 ·omega
 ·exact um h
structure cQ where
 text:List UInt8
 base:Int
 mark:Int
 cap:Int
 width:Int
 deriving Inhabited,DecidableEq
def FV (x:cQ):AV:=.agg [aj x.text,int x.base,int x.mark,int x.cap,int x.width]
abbrev ah (a:List cQ):AV:=.sl (a.map FV)
def ZL (a:List cQ)(x:Int):Bool:=decide (0≤x)&&decide (x<a.length)
def lets (a:List cQ)(w:List Int):List Int:=w.filter (ZL a)
end Go.Wc
namespace Go.Proofs
open Go.Shelf
def Tryz.Jp:Go.Shelf.Ren:=⟨fun|6=>251|15=>87|14=>258|28=>131|29=>132|20=>269|21=>270|22=>271|23=>272|24=>273|25=>274|26=>275|27=>276|46=>280|47=>189|48=>190|49=>281|50=>282|57=>284|n=>n,fun|22=>85|24=>87|25=>271|3=>3|39=>154|0=>0|53=>216|55=>218|4=>4|46=>209|45=>208|50=>213|5=>5|9=>9|66=>265|70=>269|76=>294|77=>295|n=>n,fun|n=>n⟩
theorem Tryz.jU:Go.Proofs.SlLaysF0.n6 Tryz.prog Tryz.Jp:={
 mixed:=acf
 f6:=⟨Tryz.f251.name,by decide,Tryz.func251.trans (congrArg some acf)⟩
 f14:=⟨Tryz.f258.name,by decide,Tryz.func258.trans (congrArg some acf)⟩
 f15:=Tryz.func87.trans (congrArg some acf)
 f20:=⟨Tryz.f269.name,by decide,Tryz.func269.trans (congrArg some acf)⟩
 f21:=⟨Tryz.f270.name,by decide,Tryz.func270.trans (congrArg some acf)⟩
 f22:=⟨Tryz.f271.name,by decide,Tryz.func271.trans (congrArg some acf)⟩
 f23:=⟨Tryz.f272.name,by decide,Tryz.func272.trans (congrArg some acf)⟩
 f24:=⟨Tryz.f273.name,by decide,Tryz.func273.trans (congrArg some acf)⟩
 f25:=⟨Tryz.f274.name,by decide,Tryz.func274.trans (congrArg some acf)⟩
 f26:=⟨Tryz.f275.name,by decide,Tryz.func275.trans (congrArg some acf)⟩
 f27:=⟨Tryz.f276.name,by decide,Tryz.func276.trans (congrArg some acf)⟩
 f28:=Tryz.func131.trans (congrArg some acf)
 f29:=Tryz.func132.trans (congrArg some acf)
 f46:=⟨Tryz.f280.name,by decide,Tryz.func280.trans (congrArg some acf)⟩
 f47:=Tryz.func189.trans (congrArg some acf)
 f48:=Tryz.func190.trans (congrArg some acf)
 f49:=⟨Tryz.f281.name,by decide,Tryz.func281.trans (congrArg some acf)⟩
 f50:=⟨Tryz.f282.name,by decide,Tryz.func282.trans (congrArg some acf)⟩
 f57:=⟨Tryz.f284.name,by decide,Tryz.func284.trans (congrArg some acf)⟩
 t0:=Tryz.underlying0
 a0:=Tryz.isAgg0
 z0:=Tryz.sizeOf0
 v0:=Tryz.zeroValue0
 t3:=Tryz.underlying3
 a3:=Tryz.isAgg3
 z3:=Tryz.sizeOf3
 v3:=Tryz.zeroValue3
 t4:=Tryz.underlying4
 a4:=Tryz.isAgg4
 z4:=Tryz.sizeOf4
 v4:=Tryz.zeroValue4
 t5:=Tryz.underlying5
 a5:=Tryz.isAgg5
 z5:=Tryz.sizeOf5
 v5:=Tryz.zeroValue5
 t9:=Tryz.underlying9
 a9:=Tryz.isAgg9
 z9:=Tryz.sizeOf9
 v9:=Tryz.zeroValue9
 t22:=Tryz.underlying85
 a22:=Tryz.isAgg85
 z22:=Tryz.sizeOf85
 v22:=Tryz.zeroValue85
 t25:=Tryz.underlying271
 a25:=Tryz.isAgg271
 z25:=Tryz.sizeOf271
 v25:=Tryz.zeroValue271
 t39:=Tryz.underlying154
 a39:=Tryz.isAgg154
 z39:=Tryz.sizeOf154
 v39:=Tryz.zeroValue154
 t45:=Tryz.underlying208
 a45:=Tryz.isAgg208
 z45:=Tryz.sizeOf208
 v45:=Tryz.zeroValue208
 t46:=Tryz.underlying209
 a46:=Tryz.isAgg209
 z46:=Tryz.sizeOf209
 v46:=Tryz.zeroValue209
 t50:=Tryz.underlying213
 a50:=Tryz.isAgg213
 z50:=Tryz.sizeOf213
 v50:=Tryz.zeroValue213
 t53:=Tryz.underlying216
 a53:=Tryz.isAgg216
 z53:=Tryz.sizeOf216
 v53:=Tryz.zeroValue216
 t55:=Tryz.underlying218
 a55:=Tryz.isAgg218
 z55:=Tryz.sizeOf218
 v55:=Tryz.zeroValue218
 t66:=Tryz.underlying265
 a66:=Tryz.isAgg265
 z66:=Tryz.sizeOf265
 v66:=Tryz.zeroValue265
 t70:=Tryz.underlying269
 a70:=Tryz.isAgg269
 z70:=Tryz.sizeOf269
 v70:=Tryz.zeroValue269
 t76:=Tryz.underlying294
 a76:=Tryz.isAgg294
 z76:=Tryz.sizeOf294
 v76:=Tryz.zeroValue294
 t77:=Tryz.underlying295
 a77:=Tryz.isAgg295
 z77:=Tryz.sizeOf295
 v77:=Tryz.zeroValue295 }
def Tryz.Jq:Go.Shelf.Ren:=⟨fun|5=>250|8=>87|7=>257|19=>131|20=>132|10=>261|11=>262|12=>263|13=>264|14=>265|15=>266|16=>255|17=>267|18=>268|30=>277|31=>189|32=>190|33=>278|34=>279|35=>133|40=>283|n=>n,fun|23=>22|25=>3|3=>3|32=>154|22=>22|0=>0|44=>216|46=>218|4=>4|36=>209|35=>208|41=>213|5=>5|9=>9|53=>265|57=>269|63=>294|64=>295|n=>n,fun|n=>n⟩
theorem Tryz.Rg:Go.Proofs.SlLaysM.n5 Tryz.prog Tryz.Jq:={
 mixed:=acf
 f5:=⟨Tryz.f250.name,by decide,Tryz.func250.trans (congrArg some acf)⟩
 f7:=⟨Tryz.f257.name,by decide,Tryz.func257.trans (congrArg some acf)⟩
 f8:=Tryz.func87.trans (congrArg some acf)
 f10:=⟨Tryz.f261.name,by decide,Tryz.func261.trans (congrArg some acf)⟩
 f11:=⟨Tryz.f262.name,by decide,Tryz.func262.trans (congrArg some acf)⟩
 f12:=⟨Tryz.f263.name,by decide,Tryz.func263.trans (congrArg some acf)⟩
 f13:=⟨Tryz.f264.name,by decide,Tryz.func264.trans (congrArg some acf)⟩
 f14:=⟨Tryz.f265.name,by decide,Tryz.func265.trans (congrArg some acf)⟩
 f15:=⟨Tryz.f266.name,by decide,Tryz.func266.trans (congrArg some acf)⟩
 f16:=⟨Tryz.f255.name,by decide,Tryz.func255.trans (congrArg some acf)⟩
 f17:=⟨Tryz.f267.name,by decide,Tryz.func267.trans (congrArg some acf)⟩
 f18:=⟨Tryz.f268.name,by decide,Tryz.func268.trans (congrArg some acf)⟩
 f19:=Tryz.func131.trans (congrArg some acf)
 f20:=Tryz.func132.trans (congrArg some acf)
 f30:=⟨Tryz.f277.name,by decide,Tryz.func277.trans (congrArg some acf)⟩
 f31:=Tryz.func189.trans (congrArg some acf)
 f32:=Tryz.func190.trans (congrArg some acf)
 f33:=⟨Tryz.f278.name,by decide,Tryz.func278.trans (congrArg some acf)⟩
 f34:=⟨Tryz.f279.name,by decide,Tryz.func279.trans (congrArg some acf)⟩
 f35:=⟨Tryz.f133.name,by decide,Tryz.func133.trans (congrArg some acf)⟩
 f40:=⟨Tryz.f283.name,by decide,Tryz.func283.trans (congrArg some acf)⟩
 t0:=Tryz.underlying0
 a0:=Tryz.isAgg0
 z0:=Tryz.sizeOf0
 v0:=Tryz.zeroValue0
 t3:=Tryz.underlying3
 a3:=Tryz.isAgg3
 z3:=Tryz.sizeOf3
 v3:=Tryz.zeroValue3
 t4:=Tryz.underlying4
 a4:=Tryz.isAgg4
 z4:=Tryz.sizeOf4
 v4:=Tryz.zeroValue4
 t5:=Tryz.underlying5
 a5:=Tryz.isAgg5
 z5:=Tryz.sizeOf5
 v5:=Tryz.zeroValue5
 t9:=Tryz.underlying9
 a9:=Tryz.isAgg9
 z9:=Tryz.sizeOf9
 v9:=Tryz.zeroValue9
 t22:=Tryz.underlying22
 a22:=Tryz.isAgg22
 z22:=Tryz.sizeOf22
 v22:=Tryz.zeroValue22
 t23:=Tryz.underlying22
 a23:=Tryz.isAgg22
 z23:=Tryz.sizeOf22
 v23:=Tryz.zeroValue22
 t25:=Tryz.underlying3
 a25:=Tryz.isAgg3
 z25:=Tryz.sizeOf3
 v25:=Tryz.zeroValue3
 t32:=Tryz.underlying154
 a32:=Tryz.isAgg154
 z32:=Tryz.sizeOf154
 v32:=Tryz.zeroValue154
 t35:=Tryz.underlying208
 a35:=Tryz.isAgg208
 z35:=Tryz.sizeOf208
 v35:=Tryz.zeroValue208
 t36:=Tryz.underlying209
 a36:=Tryz.isAgg209
 z36:=Tryz.sizeOf209
 v36:=Tryz.zeroValue209
 t41:=Tryz.underlying213
 a41:=Tryz.isAgg213
 z41:=Tryz.sizeOf213
 v41:=Tryz.zeroValue213
 t44:=Tryz.underlying216
 a44:=Tryz.isAgg216
 z44:=Tryz.sizeOf216
 v44:=Tryz.zeroValue216
 t46:=Tryz.underlying218
 a46:=Tryz.isAgg218
 z46:=Tryz.sizeOf218
 v46:=Tryz.zeroValue218
 t53:=Tryz.underlying265
 a53:=Tryz.isAgg265
 z53:=Tryz.sizeOf265
 v53:=Tryz.zeroValue265
 t57:=Tryz.underlying269
 a57:=Tryz.isAgg269
 z57:=Tryz.sizeOf269
 v57:=Tryz.zeroValue269
 t63:=Tryz.underlying294
 a63:=Tryz.isAgg294
 z63:=Tryz.sizeOf294
 v63:=Tryz.zeroValue294
 t64:=Tryz.underlying295
 a64:=Tryz.isAgg295
 z64:=Tryz.sizeOf295
 v64:=Tryz.zeroValue295 }
def Tryz.MD:Go.Shelf.Ren:=⟨fun|35=>233|n=>n,fun|22=>85|23=>87|3=>3|4=>4|0=>0|n=>n,fun|n=>n⟩
theorem Tryz.eo:Go.Proofs.SlLaysE0.n35 Tryz.prog Tryz.MD:={
 mixed:=acf
 f35:=⟨Tryz.f233.name,by decide,Tryz.func233.trans (congrArg some acf)⟩
 t0:=Tryz.underlying0
 a0:=Tryz.isAgg0
 z0:=Tryz.sizeOf0
 v0:=Tryz.zeroValue0
 t3:=Tryz.underlying3
 a3:=Tryz.isAgg3
 z3:=Tryz.sizeOf3
 v3:=Tryz.zeroValue3
 t4:=Tryz.underlying4
 a4:=Tryz.isAgg4
 z4:=Tryz.sizeOf4
 v4:=Tryz.zeroValue4
 t22:=Tryz.underlying85
 a22:=Tryz.isAgg85
 z22:=Tryz.sizeOf85
 v22:=Tryz.zeroValue85 }
def Tryz.Jr:Go.Shelf.Ren:=⟨fun|6=>56|15=>87|14=>86|28=>131|29=>132|20=>123|21=>124|22=>125|23=>126|24=>127|25=>128|26=>129|27=>130|46=>188|47=>189|48=>190|49=>191|50=>192|57=>230|n=>n,fun|22=>52|24=>22|25=>116|3=>3|39=>154|0=>0|53=>216|55=>218|4=>4|46=>209|45=>208|50=>213|5=>5|9=>9|66=>265|70=>269|76=>294|77=>295|n=>n,fun|n=>n⟩
theorem Tryz.vk:Go.Proofs.SlLaysF.n6 Tryz.prog Tryz.Jr:={
 mixed:=acf
 f6:=⟨Tryz.f56.name,by decide,Tryz.func56.trans (congrArg some acf)⟩
 f14:=⟨Tryz.f86.name,by decide,Tryz.func86.trans (congrArg some acf)⟩
 f15:=Tryz.func87.trans (congrArg some acf)
 f20:=⟨Tryz.f123.name,by decide,Tryz.func123.trans (congrArg some acf)⟩
 f21:=⟨Tryz.f124.name,by decide,Tryz.func124.trans (congrArg some acf)⟩
 f22:=⟨Tryz.f125.name,by decide,Tryz.func125.trans (congrArg some acf)⟩
 f23:=⟨Tryz.f126.name,by decide,Tryz.func126.trans (congrArg some acf)⟩
 f24:=⟨Tryz.f127.name,by decide,Tryz.func127.trans (congrArg some acf)⟩
 f25:=⟨Tryz.f128.name,by decide,Tryz.func128.trans (congrArg some acf)⟩
 f26:=⟨Tryz.f129.name,by decide,Tryz.func129.trans (congrArg some acf)⟩
 f27:=⟨Tryz.f130.name,by decide,Tryz.func130.trans (congrArg some acf)⟩
 f28:=Tryz.func131.trans (congrArg some acf)
 f29:=Tryz.func132.trans (congrArg some acf)
 f46:=⟨Tryz.f188.name,by decide,Tryz.func188.trans (congrArg some acf)⟩
 f47:=Tryz.func189.trans (congrArg some acf)
 f48:=Tryz.func190.trans (congrArg some acf)
 f49:=⟨Tryz.f191.name,by decide,Tryz.func191.trans (congrArg some acf)⟩
 f50:=⟨Tryz.f192.name,by decide,Tryz.func192.trans (congrArg some acf)⟩
 f57:=⟨Tryz.f230.name,by decide,Tryz.func230.trans (congrArg some acf)⟩
 t0:=Tryz.underlying0
 a0:=Tryz.isAgg0
 z0:=Tryz.sizeOf0
 v0:=Tryz.zeroValue0
 t3:=Tryz.underlying3
 a3:=Tryz.isAgg3
 z3:=Tryz.sizeOf3
 v3:=Tryz.zeroValue3
 t4:=Tryz.underlying4
 a4:=Tryz.isAgg4
 z4:=Tryz.sizeOf4
 v4:=Tryz.zeroValue4
 t5:=Tryz.underlying5
 a5:=Tryz.isAgg5
 z5:=Tryz.sizeOf5
 v5:=Tryz.zeroValue5
 t9:=Tryz.underlying9
 a9:=Tryz.isAgg9
 z9:=Tryz.sizeOf9
 v9:=Tryz.zeroValue9
 t22:=Tryz.underlying52
 a22:=Tryz.isAgg52
 z22:=Tryz.sizeOf52
 v22:=Tryz.zeroValue52
 a24:=Tryz.isAgg22
 z24:=Tryz.sizeOf22
 t25:=Tryz.underlying116
 a25:=Tryz.isAgg116
 z25:=Tryz.sizeOf116
 v25:=Tryz.zeroValue116
 t39:=Tryz.underlying154
 a39:=Tryz.isAgg154
 z39:=Tryz.sizeOf154
 v39:=Tryz.zeroValue154
 t45:=Tryz.underlying208
 a45:=Tryz.isAgg208
 z45:=Tryz.sizeOf208
 v45:=Tryz.zeroValue208
 t46:=Tryz.underlying209
 a46:=Tryz.isAgg209
 z46:=Tryz.sizeOf209
 v46:=Tryz.zeroValue209
 t50:=Tryz.underlying213
 a50:=Tryz.isAgg213
 z50:=Tryz.sizeOf213
 v50:=Tryz.zeroValue213
 t53:=Tryz.underlying216
 a53:=Tryz.isAgg216
 z53:=Tryz.sizeOf216
 v53:=Tryz.zeroValue216
 t55:=Tryz.underlying218
 a55:=Tryz.isAgg218
 z55:=Tryz.sizeOf218
 v55:=Tryz.zeroValue218
 t66:=Tryz.underlying265
 a66:=Tryz.isAgg265
 z66:=Tryz.sizeOf265
 v66:=Tryz.zeroValue265
 t70:=Tryz.underlying269
 a70:=Tryz.isAgg269
 z70:=Tryz.sizeOf269
 v70:=Tryz.zeroValue269
 t76:=Tryz.underlying294
 a76:=Tryz.isAgg294
 z76:=Tryz.sizeOf294
 v76:=Tryz.zeroValue294
 t77:=Tryz.underlying295
 a77:=Tryz.isAgg295
 z77:=Tryz.sizeOf295
 v77:=Tryz.zeroValue295 }
end Go.Proofs
