/-
  Part of the proof.
-/
import Derived.Test.YtlapahnodhmcpaaGreatJ0
import Derived.Test.YtlapahnodhmcpaaGreatJ6
set_option linter.unusedVariables false
set_option linter.unusedSectionVars false
set_option linter.unusedSimpArgs false
set_option maxRecDepth 100000
set_option maxHeartbeats 40000000
namespace Go.Wb
open Go.Am
inductive Rx where
 | mk (kind:Int)(syms:List Int)(kids:List Rx)
def Rx.kind:Rx→Int|.mk k _ _=>k
def Rx.syms:Rx→List Int|.mk _ s _=>s
def Rx.kids:Rx→List Rx|.mk _ _ l=>l
instance:Inhabited Rx:=⟨.mk 0 [] []⟩
theorem Rx.eta (r:Rx):r=.mk r.kind r.syms r.kids:=by cases r;rfl
mutual
def Rx.av:Rx→AV
 | .mk k s l=>.agg [int k,ints s,.sl (Rx.gA l)]
def Rx.gA:List Rx→List AV
 | []=>[]
 | x :: l=>x.av :: Rx.gA l
end
def rx (r:Rx):AV:=.agg [int r.kind,ints r.syms,.sl (Rx.gA r.kids)]
abbrev jM (l:List Rx):AV:=.sl (l.map rx)
theorem U1 (r:Rx):r.av=rx r:=by cases r with|mk k s l=>rw[Rx.av];rfl
theorem xQ:∀ l:List Rx,Rx.gA l=l.map rx
 | []=>by rw[Rx.gA];rfl
 | x :: l=>by rw[Rx.gA,xQ l,U1];rfl
theorem ft (r:Rx):rx r=.agg [int r.kind,ints r.syms,jM r.kids]:=by unfold rx;rw[xQ]
abbrev wk (r:Rx):AV:=.pc [int r.kind,ints r.syms,jM r.kids] 0
mutual
def Rx.size:Rx→Nat
 | .mk _ s l=>1+s.length+Rx.aB l
def Rx.aB:List Rx→Nat
 | []=>0
 | x :: l=>x.size+Rx.aB l
end
theorem gB:∀ {l:List Rx}{x:Rx},x∈l→x.size≤Rx.aB l
 | y :: l, x, h => by
   rw[Rx.aB];rcases aaC.1 h with rfl|h
   · omega
   · have:=gB h;omega
variable{r x:Rx}
theorem de (h:x∈r.kids):x.size<r.size:=by cases r with|mk k s l=>rw[Rx.size];have:=gB (l:=l) h;omega
theorem size_pos (r:Rx):1≤r.size:=by cases r with|mk k s l=>rw[Rx.size];omega
variable{i:Nat}
theorem aQ {l:List Rx}(h:i<l.length):l.getD i default∈l:=by rw[aag,aal h];exact abp h
theorem ij (h:i<r.kids.length):(r.kids.getD i default).size<r.size:=de (aQ h)
theorem drop_cons {α:Type} [Inhabited α]{l:List α}{k:Nat}(h:k<l.length):l.drop k=l.getD k default :: l.drop (k+1):=by rw[abF h,aag,aal h];rfl
theorem dh:∀ l:List Rx,l.length≤Rx.aB l
 | []=>aan _
 | x :: l=>by rw[Rx.aB,aam];have:=dh l;have:=size_pos x;omega
theorem size_eq (r:Rx):r.size=1+r.syms.length+Rx.aB r.kids:=by cases r with|mk k s l=>rw[Rx.size];rfl
theorem eA (r:Rx):r.syms.length<r.size:=by rw[size_eq];omega
theorem ea (r:Rx):r.kids.length<r.size:=by rw[size_eq];have:=dh r.kids;omega
theorem xR {l:List Rx}(h:i<l.length):Rx.aB (l.drop i)=(l.getD i default).size+Rx.aB (l.drop (i+1)):=by rw[drop_cons h,Rx.aB]
def wm (l:List Int)(j:Nat):Prop:=0≤l.getD j default∧l.getD j default<64∧(0<j→l.getD ((j:Int)-1).toNat default<l.getD j default)
instance (l:List Int)(j:Nat):Decidable (wm l j):=by unfold wm;exact inferInstance
def jY (l:List Int):Bool:=decide (0<l.length∧∀j,j<l.length→wm l j)
theorem DZ {l:List Int}{k:Nat}(hk:k<l.length)(h:¬wm l k):false=jY l:=by symm;unfold jY;rw[decide_eq_false_iff_not];exact fun q=>h (q.2 k hk)
theorem AE {l:List Int}(h:∀j,j<l.length→wm l j):jY l=decide (0<l.length):=by unfold jY;exact decide_eq_decide.2 ⟨fun q=>q.1,fun q=>⟨q,h⟩⟩
theorem bX {P:Nat→Prop}{k:Nat}(h:∀j,j<k→P j)(h2:P k):∀j,j<k+1→P j:=fun j hj=>by
 rcases Nat.lt_or_eq_of_le (Nat.lt_succ_iff.1 hj) with q|rfl
 ·exact h j q
 ·exact h2
def bQ (a b:Int):Int:=if a<b then -1 else if b<a then 1 else 0
def nI (c d:Int):Int:=if c=0 then d else c
def bA:List Int→List Int→Int
 | [],[]=>0
 | [],_ :: _=>-1
 | _ :: _,[]=>1
 | x :: xs,y :: ys=>nI (bQ x y) (bA xs ys)
mutual
def df:Rx→Rx→Int
 | .mk k s l,b=>nI (bQ k b.kind) (nI (bA s b.syms) (cE l b.kids))
def cE:List Rx→List Rx→Int
 | [],[]=>0
 | [],_ :: _=>-1
 | _ :: _,[]=>1
 | x :: xs,y :: ys=>nI (df x y) (cE xs ys)
end
theorem tj (a b:Rx):df a b=nI (nI (bQ a.kind b.kind) (bA a.syms b.syms)) (cE a.kids b.kids):=by
 cases a with|mk k s l =>
 rw[df];show _=nI (nI (bQ k _) (bA s _)) (cE l _);unfold nI;split<;>simp_all
variable{a b:List Int}
theorem pX {k:Nat}(ha:k<a.length)(hb:k<b.length):bA (a.drop k) (b.drop k)=nI (bQ (a.getD k default) (b.getD k default)) (bA (a.drop (k+1)) (b.drop (k+1))):=by rw[drop_cons ha,drop_cons hb];rfl
theorem oK {k:Nat}(h:a.length≤k∨b.length≤k)(ha:k≤a.length)(hb:k≤b.length):bA (a.drop k) (b.drop k)=bQ a.length b.length:=by
 unfold bQ;rcases aaK k a.length with h1|h1
 ·have h2:b.length≤k:=acK;rw[drop_cons h1,abh h2,if_neg acK,if_pos acK];rfl
 ·rw[abh h1];rcases aaK k b.length with h2|h2
  ·rw[drop_cons h2,if_pos acK];rfl
  ·rw[abh h2,if_neg acK,if_neg acK];rfl
theorem si {a b:List Rx}{k:Nat}(ha:k<a.length)(hb:k<b.length):cE (a.drop k) (b.drop k)=nI (df (a.getD k default) (b.getD k default)) (cE (a.drop (k+1)) (b.drop (k+1))):=by rw[drop_cons ha,drop_cons hb,cE]
theorem qQ {a b:List Rx}{k:Nat}(h:a.length≤k∨b.length≤k)(ha:k≤a.length)(hb:k≤b.length):cE (a.drop k) (b.drop k)=bQ a.length b.length:=by
 unfold bQ;rcases aaK k a.length with h1|h1
 ·have h2:b.length≤k:=acK;rw[drop_cons h1,abh h2,if_neg acK,if_pos acK,cE]
 ·rw[abh h1];rcases aaK k b.length with h2|h2
  ·rw[drop_cons h2,if_pos acK,cE]
  ·rw[abh h2,if_neg acK,if_neg acK,cE]
variable{c d:Int}
theorem mh (h:c=0):nI c d=d:=if_pos h
theorem B6 (h:¬c=0):nI c d=c:=if_neg h
variable{T:Int}
theorem H0 (h:T=nI c d)(hc:¬c=0):c=T:=by rw[h,B6 hc]
theorem PV (h:T=nI c (bA (a.drop i) (b.drop i)))(hc:c=0)(ha:i≤a.length)(hb:i≤b.length)(hi:a.length≤i∨b.length≤i):bQ a.length b.length=T:=by rw[h,mh hc,oK hi ha hb]
theorem PW {a b:List Rx}(h:T=nI c (cE (a.drop i) (b.drop i)))(hc:c=0)(ha:i≤a.length)(hb:i≤b.length)(hi:a.length≤i∨b.length≤i):bQ a.length b.length=T:=by rw[h,mh hc,qQ hi ha hb]
theorem MC (h:T=nI c (bA (a.drop i) (b.drop i)))(hc:c=0)(ha:i<a.length)(hb:i<b.length):T=nI (bQ (a.getD i default) (b.getD i default)) (bA (a.drop (i+1)) (b.drop (i+1))):=by rw[h,mh hc,pX ha hb]
theorem MD {a b:List Rx}(h:T=nI c (cE (a.drop i) (b.drop i)))(hc:c=0)(ha:i<a.length)(hb:i<b.length):T=nI (df (a.getD i default) (b.getD i default)) (cE (a.drop (i+1)) (b.drop (i+1))):=by rw[h,mh hc,si ha hb]
mutual
def aR:Rx→Bool
 | .mk k s l=>if k<0∨5<k then false else if k=2 then jY s&&decide (l.length=0) else
  if 0<s.length∨(k≤1∧0<l.length)∨(k=5∧l.length≠1) then false else lJ l
def lJ:List Rx→Bool
 | []=>true
 | x :: l=>aR x&&lJ l
end
theorem fJ (r:Rx):aR r=if r.kind<0∨5<r.kind then false else if r.kind=2 then jY r.syms&&decide (r.kids.length=0) else
  if 0<r.syms.length∨(r.kind≤1∧0<r.kids.length)∨(r.kind=5∧r.kids.length≠1) then false else lJ r.kids:=by
 cases r with|mk k s l=>rw[aR];rfl
theorem ik:∀ l:List Rx,lJ l=l.all aR
 | []=>by rw[lJ];rfl
 | x :: l=>by rw[lJ,ik l];rfl
theorem Gu {l:List Rx}(h:i<l.length)(hv:aR (l.getD i default)=false):lJ l=false:=by rw[ik,List.all_eq_false];exact⟨_,aQ h,by rw[hv];exact Bool.false_ne_true⟩
theorem D0 {l:List Rx}(h:∀j,j<l.length→aR (l.getD j default)=true):lJ l=true:=by rw[ik,aaF];intro x hx;obtain⟨j,hj,rfl⟩:=abd hx;have:=h j hj;rwa [aag,aal hj] at this
def eB {α:Type} [Inhabited α](p:α→Bool)(l:List α):Int:=if l.any p then(l.findIdx p:Nat) else -1
theorem xS {α:Type} [Inhabited α]{p:α→Bool}{l:List α}(h:∀j,j<l.length→p (l.getD j default)=false):l.any p=false:=by rw[abH];intro x hx;obtain⟨j,hj,rfl⟩:=abd hx;have:=h j hj;rw[aag,aal hj] at this;exact fun q=>by rw[ace] at this;rw[q] at this;exact absurd this acM
theorem lT {α:Type} [Inhabited α]{p:α→Bool}{l:List α}(h:∀j,j<l.length→p (l.getD j default)=false):-1=eB p l:=by unfold eB;rw[xS h];rfl
theorem nJ {α:Type} [Inhabited α]{p:α→Bool}{l:List α}{k:Nat}(hk:k<l.length)(h:∀j,j<k→p (l.getD j default)=false)(hp:p (l.getD k default)=true):(k:Int)=eB p l:=by
 have hg:l.getD k default=l[k]:=by rw[aag,aal hk];rfl
 rw[hg] at hp;unfold eB;rw[if_pos (aaQ.2 ⟨_,abp hk,hp⟩)];have h1:l.findIdx p=k:=by
  refine(List.findIdx_eq hk).2 ⟨hp,fun j hj=>?_⟩;have:=h j hj;rwa [aag,aal acK] at this
 rw[h1]
theorem wE {α:Type} [Inhabited α](p:α→Bool)(l:List α):decide (0≤eB p l)=l.any p:=by
 unfold eB;split
 ·rename_i h;rw[h];exact decide_eq_true acK
 ·rename_i h;rw[Bool.not_eq_true] at h;rw[h];rfl
mutual
def cO:Rx→Bool
 | .mk k _ l=>if k=3 then xT l else if k=4 then xU l else decide (k=1∨k=5)
def xT:List Rx→Bool
 | []=>true
 | x :: l=>cO x&&xT l
def xU:List Rx→Bool
 | []=>false
 | x :: l=>cO x||xU l
end
theorem AF:∀ l:List Rx,xT l=l.all cO
 | []=>by rw[xT];rfl
 | x :: l=>by rw[xT,AF l];rfl
theorem AG:∀ l:List Rx,xU l=l.any cO
 | []=>by rw[xU];rfl
 | x :: l=>by rw[xU,AG l];rfl
theorem qR (r:Rx):cO r=if r.kind=3 then r.kids.all cO else if r.kind=4 then r.kids.any cO else decide (r.kind=1∨r.kind=5):=by cases r with|mk k s l=>rw[cO,AF,AG];rfl
variable{p:Rx→Bool}
theorem S8 {l:List Rx}(h:i<l.length)(hv:p (l.getD i default)=false):l.all p=false:=by rw[List.all_eq_false];exact⟨_,aQ h,by rw[hv];exact Bool.false_ne_true⟩
theorem PX {l:List Rx}(h:∀j,j<l.length→p (l.getD j default)=true):l.all p=true:=by rw[aaF];intro x hx;obtain⟨j,hj,rfl⟩:=abd hx;have:=h j hj;rwa [aag,aal hj] at this
theorem H2 {l:List Rx}(h:i<l.length)(hv:p (l.getD i default)=true):l.any p=true :=
 aaQ.2 ⟨_,aQ h,hv⟩
theorem pY (l:List Rx):l.all p=!(l.any fun x=>!p x):=by
 induction l with
 | nil=>rfl
 | cons x l ih=>rw[List.all_cons,List.any_cons,ih];cases p x<;>cases l.any _<;>rfl
theorem jE (h:r.kind=0∨r.kind=1):aR r=(decide (r.syms.length=0)&&decide (r.kids.length=0)):=by
 rw[fJ,if_neg acK,if_neg acK];by_cases h1:r.syms.length=0<;>by_cases h2:r.kids.length=0
 ·rw[if_neg acK,decide_eq_true h1,decide_eq_true h2,ik,List.length_eq_zero_iff.1 h2];rfl
 ·rw[if_pos acK,decide_eq_false h2,abG]
 ·rw[if_pos acK,decide_eq_false h1,abD]
 ·rw[if_pos acK,decide_eq_false h1,abD]
theorem mi (h:r.kind=2):aR r=(decide (r.kids.length=0)&&jY r.syms):=by rw[fJ,if_neg acK,if_pos h,Bool.and_comm]
theorem iX (h:r.kind=5):aR r=(decide (r.syms.length=0)&&(decide (r.kids.length=1)&&aR (r.kids.getD 0 default))):=by
 rw[fJ,if_neg acK,if_neg acK];by_cases h1:r.syms.length=0<;>by_cases h2:r.kids.length=1
 ·rw[if_neg acK,decide_eq_true h1,decide_eq_true h2,ik];obtain⟨x,hx⟩:=List.length_eq_one_iff.1 h2;rw[hx];simp
 ·rw[if_pos acK,decide_eq_false h2,abD,abG]
 ·rw[if_pos acK,decide_eq_false h1,abD]
 ·rw[if_pos acK,decide_eq_false h1,abD]
theorem lU (h:r.kind=3∨r.kind=4):aR r=(decide (r.syms.length=0)&&!(r.kids.any fun x=>!aR x)):=by
 rw[fJ,if_neg acK,if_neg acK];by_cases h1:r.syms.length=0
 ·rw[if_neg acK,decide_eq_true h1,ik,pY,abm]
 ·rw[if_pos acK,decide_eq_false h1,abD]
theorem ux (h:r.kind<0∨5<r.kind):aR r=false:=by rw[fJ,if_pos h]
abbrev dI:Rx:=.mk 0 [] []
abbrev eG:Rx:=.mk 1 [] []
theorem bD {α:Type} [Inhabited α]{l:List α}(h:i<l.length):l.take (i+1)=l.take i++[l.getD i default]:=by rw[List.take_add_one,aag,aal h];rfl
def cw (x:Rx):List Rx:=if x.kind=3 then x.kids else if x.kind=1 then[] else[x]
def ek (l:List Rx):List Rx:=l.flatMap cw
theorem uy {l:List Rx}(h:i<l.length):ek (l.take (i+1))=ek (l.take i)++cw (l.getD i default):=by rw[bD h,ek,ab6];simp[ek]
theorem ME (x:Rx):(cw x).length≤x.size:=by
 unfold cw;have:=ea x;have:=size_pos x;split
 ·omega
 ·split<;>simp<;>omega
theorem D1:∀ l:List Rx,(ek l).length≤Rx.aB l
 | []=>aan _
 | x :: l => by
   have:=D1 l;have:=ME x;rw[Rx.aB];simp only[ek,abt,aar] at *;omega
theorem ee:∀ (l m:List Rx),Rx.aB (l++m)=Rx.aB l+Rx.aB m
 | [],m=>by rw[abz,Rx.aB,abg]
 | x :: l,m=>by rw[abN,Rx.aB,Rx.aB,ee l m];omega
theorem jh (l:List Rx)(i:Nat):Rx.aB (l.take i)+Rx.aB (l.drop i)=Rx.aB l:=by rw[←ee,abn]
theorem AH {l:List Rx}(h:i<l.length):(ek (l.take i)).length+(l.getD i default).kids.length+1≤Rx.aB l:=by have h1:=D1 (l.take i);have h2:=jh l i;have h3:=xR h;have h4:=ea (l.getD i default);omega
theorem iM (h:x.kind=3):cw x=x.kids:=if_pos h
theorem mj (h:x.kind=1):cw x=[]:=by unfold cw;rw[if_neg acK,if_pos h]
theorem ef (h:x.kind≠3)(h1:x.kind≠1):cw x=[x]:=by unfold cw;rw[if_neg h,if_neg h1]
def xV (k:List Rx):Rx:=if k.length=0 then eG else if k.length=1 then k.getD 0 default else .mk 3 [] k
def cU (l:List Rx):Rx:=if l.any (fun x=>decide (x.kind=0)) then dI else xV (ek l)
theorem uz {l:List Rx}(h:i<l.length)(hk:(l.getD i default).kind=0):cU l=dI:=by unfold cU;rw[if_pos (H2 h (decide_eq_true hk))]
theorem nM {l:List Rx}(h:∀j,j<l.length→(l.getD j default).kind≠0):cU l=xV (ek l):=by unfold cU;rw[xS (p:=fun x:Rx=>decide (x.kind=0)) (l:=l) fun j hj=>decide_eq_false (h j hj)];rfl
variable{k:List Rx}
theorem Gv (h:k.length=0):xV k=eG:=if_pos h
theorem Gw (h:k.length=1):xV k=k.getD 0 default:=by unfold xV;rw[if_neg acK,if_pos h]
theorem sj (h:k.length≠0)(h1:k.length≠1):xV k=.mk 3 [] k:=by unfold xV;rw[if_neg h,if_neg h1]
theorem mT (k:Int)(s:List Int)(l:List Rx):rx (.mk k s l)=.agg [int k,ints s,jM l]:=ft _
def pZ (x:Rx):Rx:=if x.kind=4∧(x.kids.getD 0 default).kind=1 then(if x.kids.length=2 then x.kids.getD 1 default else .mk x.kind x.syms (x.kids.drop 1)) else x
def lA (x:Rx):Rx:=if x.kind=0∨x.kind=1 then eG else if x.kind=5 then x else .mk 5 [] [pZ x]
def MF:List Int→Int
 | []=>0
 | x :: l=>nI x (MF l)
theorem D2 {l:List Int}{k:Nat}(h:k<l.length):MF (l.drop k)=nI (l.getD k default) (MF (l.drop (k+1))):=by rw[drop_cons h];rfl
theorem AI (x:Int):bQ x x=0:=by unfold bQ;rw[if_neg acK,if_neg acK]
theorem uA {x y:Int}(h:x<y):bQ x y=-1:=if_pos h
theorem AJ {x y:Int}(h:y<x):bQ x y=1:=by unfold bQ;rw[if_neg acK,if_pos h]
theorem H3 (a b:Rx):MF [bQ a.kind b.kind,bA a.syms b.syms,cE a.kids b.kids]=df a b:=by
 rw[tj];unfold MF MF MF MF nI;repeat' split
 all_goals first|rfl|(simp_all;done)|omega
def en {α:Type} [Inhabited α](eq:α→α→Bool)(l:List α):Nat→List α
 | 0=>[]
 | i+1=>if 0<i∧eq (l.getD i default) (l.getD (i-1) default)=true then en eq l i else en eq l i++[l.getD i default]
def sO {α:Type} [Inhabited α](eq:α→α→Bool)(l:List α):List α:=en eq l l.length
variable{j:Nat}
section
variable {α:Type} [Inhabited α]{eq:α→α→Bool}{l:List α}
theorem D3 (i:Nat):(en eq l i).length≤i:=by
 induction i with
 | zero=>exact aak _
 | succ i ih =>
   rw[en];split
   · omega
   · rw[aar,aaZ];omega
theorem nN (h0:0<i)(h:eq (l.getD i default) (l.getD (i-1) default)=true):en eq l (i+1)=en eq l i:=by rw[en,if_pos ⟨h0,h⟩]
theorem D4 (h:eq (l.getD i default) (l.getD (i-1) default)=false):en eq l (i+1)=en eq l i++[l.getD i default]:=by rw[en,if_neg (fun q=>by rw[h] at q;exact absurd q.2 acM)]
theorem tk:en eq l 1=[l.getD 0 default]:=by rw[en,if_neg acK];rfl
theorem uB (h:l.length<2):sO eq l=l:=by
 match l,h with
 | [],_=>rfl
 | [x],_=>exact tk
theorem uC (hi:i<l.length)(h:en eq l i=l.take i)(hn:eq (l.getD i default) (l.getD (i-1) default)=false):en eq l (i+1)=l.take (i+1):=by rw[D4 hn,h,bD hi]
theorem D5 {ys:List α}{k:Nat}{v:α}(h:k<ys.length):(ys.set k v).getD k default=v:=by rw[aag,abI h];rfl
theorem lK {ys:List α}{k:Nat}{v:α}(h:k≠j):(ys.set k v).getD j default=ys.getD j default:=by rw[aag,abL h,aag]
theorem rM {ys:List α}{k:Nat}{v:α}(h:k<ys.length):(ys.set k v).take (k+1)=ys.take k++[v]:=by rw[bD (by simpa using h),D5 h,List.take_set_of_le (aak _)]
theorem B7 {ys:List α}{k q:Nat}(hk:k<ys.length)(h:en eq l (q+j)=ys.take k)(hn:eq (l.getD (q+j) default) (l.getD (q+j-1) default)=false):en eq l (q+(j+1))=(ys.set k (l.getD (q+j) default)).take (k+1):=by rw[←Nat.add_assoc,D4 hn,h,rM hk]
theorem xW {ys:List α}{k q:Nat}(h0:0<q+j)(h:en eq l (q+j)=ys.take k)(hn:eq (l.getD (q+j) default) (l.getD (q+j-1) default)=true):en eq l (q+(j+1))=ys.take k:=by rw[←Nat.add_assoc,nN h0 hn,h]
theorem B8 {f:α→AV}{ys:List α}{X:List AV}{k n:Nat}(hk:k≤ys.length)(hn:n=l.length)(h:en eq l n=ys.take k):((ys.map f).take k++X).take k=(sO eq l).map f:=by subst hn;rw[List.take_append_of_le_length (by simp;omega),List.take_take,Nat.min_self,←List.map_take,←h];rfl
theorem B9 {n:Nat}(hn:n=l.length)(h:en eq l n=l.take n):sO eq l=l:=by subst hn;unfold sO;rw[h,abj]
end
def oM (x:Rx):List Rx:=if x.kind=4 then x.kids else[x]
def aX (l:List Rx):List Rx:=l.flatMap oM
def oO (s:List Int)(x:Rx):List Int:=if x.kind=2 then s++x.syms else s
def fY (k:List Rx)(x:Rx):List Rx:=if x.kind=0∨x.kind=2 then k else k++[x]
def c7 (l:List Rx):List Int:=l.foldl oO []
def eZ (l:List Rx):List Rx:=l.foldl fY []
theorem nO {l:List Rx}(h:i<l.length):aX (l.take (i+1))=aX (l.take i)++oM (l.getD i default):=by rw[bD h,aX,ab6];simp[aX]
theorem iF {α:Type}(f:α→AV)(l:List α)(z:AV):(l.map f++[z])[l.length]?=some z:=by rw[aaE (by simp)];simp
theorem xX {α:Type}{f:α→AV}{l:List α}{z:AV}{v:α}:(l.map f++[z]).set l.length (f v)=(l++[v]).map f:=by rw[List.set_append_right _ _ (by simp),aai,ach,aas];rfl
variable{s:List Int}
theorem uD (h:x.kind=2):oO s x=s++x.syms:=if_pos h
theorem p9 (h:x.kind≠2):oO s x=s:=if_neg h
theorem Gx (h:x.kind=0∨x.kind=2):fY k x=k:=if_pos h
theorem MG (h:¬(x.kind=0∨x.kind=2)):fY k x=k++[x]:=if_neg h
theorem xY (a b:Int):bQ b a=- bQ a b:=by
 unfold bQ;repeat' split
 all_goals omega
theorem mU {a b:Int}(h:bQ a b=0):a=b:=by
 unfold bQ at h;repeat' split at h
 all_goals omega
theorem tl {a b:Int}(h:bQ a b<0)(h':bQ b c<0):bQ a c<0:=by
 unfold bQ at *;have h1:a<b:=by
  by_cases q:a<b
  ·exact q
  ·rw[if_neg q] at h;split at h<;>omega
 have h2:b<c:=by
  by_cases q:b<c
  ·exact q
  ·rw[if_neg q] at h';split at h'<;>omega
 rw[if_pos acK];decide
theorem wF {a b:Int}(h:b=-a)(h':d=-c):nI b d=- nI a c:=by
 unfold nI;subst h;subst h';by_cases q:a=0
 ·rw[if_pos acK,if_pos q]
 ·rw[if_neg acK,if_neg q]
theorem qS {a b:Int}(h:nI a b=0):a=0∧b=0:=by
 unfold nI at h;by_cases q:a=0
 ·rw[if_pos q] at h;exact⟨q,h⟩
 ·rw[if_neg q] at h;exact absurd h q
theorem qT {α β:Type}{f:α→α→Int}{g:β→β→Int}{a b c:α}{x y z:β}(hz:∀a b,f a b=0→a=b)(hft:f a b<0→f b c<0→f a c<0)(hgt:g x y<0→g y z<0→g x z<0)
  (h:nI (f a b) (g x y)<0)(h':nI (f b c) (g y z)<0):nI (f a c) (g x z)<0:=by
 unfold nI at *;by_cases q1:f a b=0
 ·have:=hz _ _ q1;subst this;rw[if_pos q1] at h;by_cases q2:f a c=0
  ·rw[if_pos q2] at h' ⊢;exact hgt h h'
  ·rw[if_neg q2] at h' ⊢;exact h'
 ·rw[if_neg q1] at h;by_cases q2:f b c=0
  ·have:=hz _ _ q2;subst this;rw[if_neg q1];exact h
  ·rw[if_neg q2] at h';have:=hft h h';rw[if_neg acK];exact this
theorem kB:∀ a b:List Int,bA b a=- bA a b
 | [],[]=>rfl
 | [],_ :: _=>rfl
 | _ :: _,[]=>rfl
 | x :: xs,y :: ys=>wF (xY x y) (kB xs ys)
theorem mV:∀ a b:List Int,bA a b=0→a=b
 | [],[],_=>rfl
 | [],_ :: _,h=>absurd (show(-1:Int)=0 from h) acM
 | _ :: _,[],h=>absurd (show(1:Int)=0 from h) acM
 | x :: xs, y :: ys, h => by
   obtain⟨h1,h2⟩:=qS h;rw[mU h1,mV xs ys h2]
theorem jZ:∀ a b c:List Int,bA a b<0→bA b c<0→bA a c<0
 | [],[],c,h,_=>absurd h acM
 | _ :: _,[],c,h,_=>absurd (show(1:Int)<0 from h) acM
 | a,_ :: _,[],_,h=>absurd (show(1:Int)<0 from h) acM
 | [],_ :: _,_ :: _,_,_=>show(-1:Int)<0 by decide
 | x :: xs,y :: ys,z :: zs,h,h'=>qT (f:=bQ) (g:=bA) (fun _ _=>mU) tl (jZ xs ys zs) h h'
mutual
theorem kX:∀ a b:Rx,df b a=- df a b
 | .mk k s l, .mk k' s' l' => by
   rw[df,df];exact wF (xY k k') (wF (kB s s') (AK l l'))
theorem AK:∀ a b:List Rx,cE b a=- cE a b
 | [],[]=>by rw[cE];rfl
 | [],_ :: _=>by rw[cE,cE];rfl
 | _ :: _,[]=>by rw[cE,cE]
 | x :: xs, y :: ys => by
   rw[cE,cE];exact wF (kX x y) (AK xs ys)
end
mutual
theorem iG:∀ a b:Rx,df a b=0→a=b
 | .mk k s l, .mk k' s' l', h => by
   rw[df] at h;obtain⟨h1,h2⟩:=qS h;obtain⟨h2,h3⟩:=qS h2;rw[mU h1,mV _ _ h2,xZ _ _ h3];rfl
theorem xZ:∀ a b:List Rx,cE a b=0→a=b
 | [],[],_=>rfl
 | [],_ :: _,h=>by rw[cE] at h;exact absurd h acM
 | _ :: _,[],h=>by rw[cE] at h;exact absurd h acM
 | x :: xs, y :: ys, h => by
   rw[cE] at h;obtain⟨h1,h2⟩:=qS h;rw[iG x y h1,xZ xs ys h2]
end
mutual
theorem kC:∀ a b c:Rx,df a b<0→df b c<0→df a c<0
 | .mk k s l, .mk k' s' l', .mk k'' s'' l'', h, h' => by
   rw[df] at h h' ⊢;refine qT (f:=bQ) (g:=fun(p q:List Int×List Rx)=>nI (bA p.1 q.1) (cE p.2 q.2)) (x:=(s,l)) (y:=(s',l')) (z:=(s'',l'')) (fun _ _=>mU) tl ?_ h h';exact fun g g'=>qT (f:=bA) (g:=cE) mV (jZ _ _ _) (vB l l' l'') g g'
theorem vB:∀ a b c:List Rx,cE a b<0→cE b c<0→cE a c<0
 | [],[],c,h,_=>by rw[cE] at h;exact absurd h acM
 | _ :: _,[],c,h,_=>by rw[cE] at h;exact absurd h acM
 | a,_ :: _,[],_,h=>by rw[cE] at h;exact absurd h acM
 | [],_ :: _,_ :: _,_,_=>by rw[cE];decide
 | x :: xs, y :: ys, z :: zs, h, h' => by
   rw[cE] at h h' ⊢;exact qT (f:=df) (g:=cE) iG (kC x y z) (vB xs ys zs) h h'
end
theorem AL (a:Rx):df a a=0:=by have:=kX a a;omega
theorem x3 (a:Rx):¬df a a<0:=by rw[AL];decide
theorem D6 {a b:Rx}(h:¬df a b<0)(h':¬df b a<0):a=b:=iG a b (by have:=kX a b;omega)
def c8 (l:List Rx):List Int:=c7 (aX l)
def dV (l:List Rx):List Rx:=eZ (aX l)
section
variable {α:Type} {le:α→α→Bool}
def JP (le:α→α→Bool)(x:α):List α→List α
 | []=>[x]
 | y :: l=>if le x y=true then x :: y :: l else y :: JP le x l
def uE (le:α→α→Bool):List α→List α
 | []=>[]
 | x :: l=>JP le x (uE le l)
theorem uF (x:α):∀l:List α,(JP le x l).Perm (x :: l)
 | []=>.refl _
 | y :: l => by
   rw[JP];split
   · exact .refl _
   · exact((uF x l).cons y).trans (.swap x y l)
theorem jq:∀ l:List α,(uE le l).Perm l
 | []=>.refl _
 | x :: l=>(uF x _).trans ((jq l).cons x)
theorem H4 (tr:∀a b c,le a b=true→le b c=true→le a c=true)(to:∀a b,(le a b||le b a)=true)(x:α):∀{l:List α},(l.Pairwise fun x y=>le x y=true)→(JP le x l).Pairwise fun x y=>le x y=true
 | [],_=>abR _ _
 | y :: l, h => by
   have h':=aa2.1 h;rw[JP];split
   · next hxy=>exact aa2.2 ⟨fun z hz=>(aaC.1 hz).elim (fun e=>by rw[e];exact hxy) fun hz=>tr _ _ _ hxy (h'.1 z hz),h⟩
   · next hxy =>
     have hyx:le y x=true:=by have:=to x y;rw[aba] at this;exact this.elim (fun q=>absurd q hxy) id
     refine aa2.2 ⟨fun z hz=>?_,H4 tr to x h'.2⟩;rcases aaC.1 ((uF x l).mem_iff.1 hz) with e|hz
     · rw[e];exact hyx
     · exact h'.1 z hz
theorem tm (tr:∀a b c,le a b=true→le b c=true→le a c=true)(to:∀a b,(le a b||le b a)=true):∀l:List α,(uE le l).Pairwise fun x y=>le x y=true
 | []=>.nil
 | x :: l=>H4 tr to x (tm tr to l)
theorem vC (an:∀a b,le a b=true→le b a=true→a=b):∀{l m:List α},l.Perm m→(l.Pairwise fun x y=>le x y=true)→(m.Pairwise fun x y=>le x y=true)→l=m
 | [],m,h,_,_=>(List.nil_perm.1 h).symm
 | x :: l,[],h,_,_=>absurd h.length_eq (by simp)
 | x :: l, y :: m, h, h1, h2 => by
   have h1':=aa2.1 h1;have h2':=aa2.1 h2;have e:x=y:=by
     rcases aaC.1 (h.mem_iff.1 aaq) with q|q
     · exact q
     · rcases aaC.1 (h.mem_iff.2 aaq) with q' | q'
       · exact q'.symm
       · exact an _ _ (h1'.1 y q') (h2'.1 x q)
   subst e;rw[vC an (List.Perm.cons_inv h) h1'.2 h2'.2]
theorem vD (tr:∀a b c,le a b=true→le b c=true→le a c=true)(to:∀a b,(le a b||le b a)=true)(an:∀a b,le a b=true→le b a=true→a=b)(l:List α):l.mergeSort le=uE le l :=
 vC an ((List.mergeSort_perm l le).trans (jq l).symm) (List.pairwise_mergeSort tr to l) (tm tr to l)
end
abbrev rz (x y:Rx):Bool:=!decide (df y x<0)
abbrev FW (x y:Int):Bool:=decide (x≤y)
def jF (s:List Int):List Int:=uE FW s
def j1 (k:List Rx):List Rx:=uE rz k
theorem oQ {y:Rx}:rz x y=true↔df x y≤0:=by have:=kX x y;show(!decide (df y x<0))=true↔_;rw[aa5,decide_eq_false_iff_not];omega
theorem x4 (a b:Rx)(h:rz a b=true)(h':rz b a=true):a=b:=iG _ _ (by have:=oQ.1 h;have:=oQ.1 h';have:=kX a b;omega)
theorem MH (a b c:Rx)(h:rz a b=true)(h':rz b c=true):rz a c=true:=by
 rw[oQ] at *;by_cases h1:df a b=0
 ·rw[iG _ _ h1];exact h'
 ·by_cases h2:df b c=0
  ·rw[←iG _ _ h2];exact h
  ·exact Int.le_of_lt (kC a b c acK acK)
theorem MI (a b:Rx):(rz a b||rz b a)=true:=by rw[aba,oQ,oQ];have:=kX a b;omega
theorem uG (a b:Int)(h:FW a b=true)(h':FW b a=true):a=b:=by have:=of_decide_eq_true h;have:=of_decide_eq_true h';omega
theorem MJ (a b c:Int)(h:FW a b=true)(h':FW b c=true):FW a c=true:=by have:=of_decide_eq_true h;have:=of_decide_eq_true h';exact decide_eq_true acK
theorem MK (a b:Int):(FW a b||FW b a)=true:=by rw[aba,decide_eq_true_eq,decide_eq_true_eq];omega
theorem vE (k:List Rx):(k.mergeSort fun x y=>!decide (df y x<0))=j1 k:=vD MH MI x4 k
theorem vF (s:List Int):(s.mergeSort fun x y=>decide (x≤y))=jF s:=vD MJ MK uG s
abbrev Pp (x y:Int):Bool:=decide (x=y)
abbrev H5 (x y:Rx):Bool:=decide (df x y=0)
def ke (s:List Int)(k:List Rx):List Rx:=if 0<s.length then k++[.mk 2 (sO Pp (jF s)) []] else k
def dW (l:List Rx):List Rx:=sO H5 (j1 (ke (c8 l) (dV l)))
def kg (k:List Rx):List Rx:=if 1<k.length∧(k.getD 0 default).kind=1∧(k.drop 1).any cO=true then k.drop 1 else k
def wo (k:List Rx):Rx:=if k.length=0 then dI else if k.length=1 then k.getD 0 default else .mk 4 [] k
def gW (l:List Rx):Rx:=wo (kg (dW l))
theorem Gy (h:k.length=0):wo k=dI:=if_pos h
theorem Ca (h:k.length=1):wo k=k.getD 0 default:=by unfold wo;rw[if_neg acK,if_pos h]
theorem x5 (h:k.length≠0)(h1:k.length≠1):wo k=.mk 4 [] k:=by unfold wo;rw[if_neg h,if_neg h1]
theorem x6 (h:1<k.length)(h1:(k.getD 0 default).kind=1)(h2:(k.drop 1).any cO=true):kg k=k.drop 1:=if_pos ⟨h,h1,h2⟩
theorem mn (h:¬(1<k.length∧(k.getD 0 default).kind=1∧(k.drop 1).any cO=true)):kg k=k:=if_neg h
theorem ML (h:0<s.length):ke s k=k++[.mk 2 (sO Pp (jF s)) []]:=if_pos h
theorem MM (h:¬0<s.length):ke s k=k:=if_neg h
theorem gQ (h:x.kind=4):oM x=x.kids:=if_pos h
theorem jr (h:x.kind≠4):oM x=[x]:=if_neg h
theorem qU (l:List Rx)(x:Rx):c7 (l++[x])=oO (c7 l) x:=by unfold c7;rw[abB];rfl
theorem qV (l:List Rx)(x:Rx):eZ (l++[x])=fY (eZ l) x:=by unfold eZ;rw[abB];rfl
variable{m:List Rx}
theorem AM {l:List Rx}(h:j<l.length):c7 (m++l.take (j+1))=oO (c7 (m++l.take j)) (l.getD j default):=by rw[bD h,←aaY,qU]
theorem AN {l:List Rx}(h:j<l.length):eZ (m++l.take (j+1))=fY (eZ (m++l.take j)) (l.getD j default):=by rw[bD h,←aaY,qV]
theorem MN (l:List Rx):∀m:List Rx,(c7 (m++l)).length+Rx.aB (eZ (m++l))≤(c7 m).length+Rx.aB (eZ m)+Rx.aB l:=by
 induction l with
 | nil=>intro m;rw[aaP];omega
 | cons x l ih =>
   intro m;have h:=ih (m++[x]);rw[aaY,List.singleton_append,qU,qV] at h;rw[Rx.aB];have h1:(oO (c7 m) x).length+Rx.aB (fY (eZ m) x)≤(c7 m).length+Rx.aB (eZ m)+x.size:=by
     unfold oO fY;have:=eA x;by_cases h2:x.kind=2
     · rw[if_pos h2,if_pos (.inr h2),aar];omega
     · rw [if_neg h2]
       split
       · omega
       · rw[ee,Rx.aB,Rx.aB];omega
   omega
theorem wG (l:List Rx):(c7 l).length+Rx.aB (eZ l)≤Rx.aB l:=by
 have:=MN l [];rw[abz] at this;have h1:(c7 []).length+Rx.aB (eZ [])=0:=by rfl
 omega
theorem kD:∀ l:List Rx,Rx.aB (aX l)≤Rx.aB l
 | []=>aak _
 | x :: l => by
   have:=kD l;have e:aX (x :: l)=oM x++aX l:=rfl;rw[e,ee,Rx.aB];have h:Rx.aB (oM x)≤x.size:=by
     unfold oM;split
     · rw[size_eq];omega
     · rw[Rx.aB,Rx.aB];omega
   omega
theorem gM (l:List Rx)(i:Nat):Rx.aB (l.take i)≤Rx.aB l:=by have:=jh l i;omega
theorem x7 {l:List Rx}(h:l.Perm m):Rx.aB l=Rx.aB m:=by
 induction h with
 | nil=>rfl
 | cons x _ ih=>rw[Rx.aB,Rx.aB,ih]
 | swap x y l=>rw[Rx.aB,Rx.aB,Rx.aB,Rx.aB];omega
 | trans _ _ h1 h2=>omega
theorem MO {α:Type} [Inhabited α]{eq:α→α→Bool}{l:List α}{x:α}:∀i,i≤l.length→x∈en eq l i→x∈l:=by
 intro i
 induction i with
 | zero=>intro _ h;cases h
 | succ i ih =>
   intro hi h;rw[en] at h;split at h
   · exact ih acK h
   · rcases aaU.1 h with h | h
     · exact ih acK h
     · rw [aay] at h
       subst h;rw[aag,aal acK];exact abp acK
theorem PY {α:Type} [Inhabited α]{eq:α→α→Bool}{l:List α}{x:α}(h:x∈sO eq l):x∈l:=MO _ (aak _) h
theorem wH {α:Type} [Inhabited α]{eq:α→α→Bool}{l:List α}:(sO eq l).length≤l.length:=D3 _
abbrev Xx (r:Rx):List AV:=[int r.kind,ints r.syms,.sl (Rx.gA r.kids)]
theorem MP (l:List Rx):(c8 l).length+Rx.aB (dV l)≤Rx.aB l:=aaO (wG _) (kD l)
theorem qW (s:List Int):(jF s).length=s.length:=(jq s).length_eq
theorem qX (k:List Rx):(j1 k).length=k.length:=(jq k).length_eq
theorem lV :x∈j1 k↔x∈k:=(jq k).mem_iff
theorem x8 (s:List Int)(k:List Rx):Rx.aB (ke s k)≤1+s.length+Rx.aB k:=by
 unfold ke;split
 ·rw[ee,Rx.aB,Rx.aB,Rx.size,Rx.aB];have:=wH (eq:=Pp) (l:=jF s);rw[qW] at this;omega
 ·omega
theorem tn {l:List Rx}(h:x∈dW l):x∈ke (c8 l) (dV l):=lV.1 (PY h)
theorem wI (h:x.kind=0∨x.kind=1):lA x=eG:=if_pos h
theorem wJ (h:x.kind=5):lA x=x:=by unfold lA;rw[if_neg acK,if_pos h]
theorem oR (h:¬(x.kind=0∨x.kind=1))(h5:x.kind≠5):lA x=.mk 5 [] [pZ x]:=by unfold lA;rw[if_neg h,if_neg h5]
theorem qY (h:¬(x.kind=4∧(x.kids.getD 0 default).kind=1)):pZ x=x:=if_neg h
theorem wL (h:x.kind=4∧(x.kids.getD 0 default).kind=1)(h2:x.kids.length=2):pZ x=x.kids.getD 1 default:=by unfold pZ;rw[if_pos h,if_pos h2]
theorem wM (h:x.kind=4∧(x.kids.getD 0 default).kind=1)(h2:x.kids.length≠2):pZ x=.mk x.kind x.syms (x.kids.drop 1):=by unfold pZ;rw[if_pos h,if_neg h2]
theorem x9 {α:Type} [Inhabited α]{l:List α}:(l.drop 1).getD 0 default=l.getD 1 default:=by cases l<;>simp
theorem H6 (y:Rx):jM [y]=.sl [rx y]:=rfl
theorem S9 (x:Rx)(l:List Rx):rx (.mk x.kind x.syms l)=.agg [int x.kind,ints x.syms,jM l]:=ft _
mutual
def aL (t:Bool):Rx→Rx
 | .mk k s l=>if k=3 then cU (if t then(mW t l).reverse else mW t l) else if k=4 then gW (mW t l) else if k=5 then lA ((mW t l).getD 0 default) else .mk k s []
def mW (t:Bool):List Rx→List Rx
 | []=>[]
 | x :: l=>aL t x :: mW t l
end
theorem vG (t:Bool):∀l:List Rx,mW t l=l.map (aL t)
 | []=>by rw[mW];rfl
 | x :: l=>by rw[mW,vG t l];rfl
theorem nP (t:Bool)(r:Rx):aL t r=if r.kind=3 then cU (if t then(r.kids.map (aL t)).reverse else r.kids.map (aL t)) else if r.kind=4 then gW (r.kids.map (aL t)) else
  if r.kind=5 then lA ((r.kids.map (aL t)).getD 0 default) else .mk r.kind r.syms []:=by
 cases r with|mk k s l=>rw[aL,vG];rfl
theorem lW (h:r.kind=3):aL false r=cU (r.kids.map (aL false)):=by rw[nP,if_pos h];rfl
theorem nQ (h:r.kind=3):aL true r=cU (r.kids.map (aL true)).reverse:=by rw[nP,if_pos h];rfl
variable{t:Bool}
theorem AO (h:r.kind=3)(ht:t=true):aL t r=cU (r.kids.map (aL t)).reverse:=by rw[ht];exact nQ h
theorem AP (h:r.kind=3)(ht:t=false):aL t r=cU (r.kids.map (aL t)):=by rw[ht];exact lW h
theorem kY (h:r.kind=4):aL t r=gW (r.kids.map (aL t)):=by rw[nP,if_neg acK,if_pos h]
theorem kZ (h:r.kind=5):aL t r=lA ((r.kids.map (aL t)).getD 0 default):=by rw[nP,if_neg acK,if_neg acK,if_pos h]
theorem j2 (h:r.kind≠3)(h4:r.kind≠4)(h5:r.kind≠5):aL t r=.mk r.kind r.syms []:=by rw[nP,if_neg h,if_neg h4,if_neg h5]
theorem getD_map {α β:Type} [Inhabited α] [Inhabited β]{f:α→β}{l:List α}(h:i<l.length):(l.map f).getD i default=f (l.getD i default):=by rw[aag,aap,aag,aal h];rfl
end Go.Wb
