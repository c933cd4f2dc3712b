/-
  Part of the proof.
-/
import Derived.Test.YtlapahnodhmcpaaGreatJ0
import Derived.Test.YtlapahnodhmcpaaGreatJ16
set_option linter.unusedVariables false
set_option linter.unusedSectionVars false
set_option linter.unusedSimpArgs false
set_option maxRecDepth 100000
set_option maxHeartbeats 40000000
namespace Go.Wb
open Go.Am
abbrev dG:Rx:=.mk 0 [] []
abbrev eE:Rx:=.mk 1 [] []
theorem bD {α:Type} [Inhabited α]{l:List α}{i:Nat}(h:i<l.length):l.take (i+1)=l.take i++[l.getD i default]:=by
 rw[List.take_add_one,ZY,Z3 h];rfl
def cy (x:Rx):List Rx:=if x.kind=3 then x.kids else if x.kind=1 then[] else[x]
def ek (l:List Rx):List Rx:=l.flatMap cy
theorem tW {l:List Rx}{i:Nat}(h:i<l.length):ek (l.take (i+1))=ek (l.take i)++cy (l.getD i default):=by
 rw[bD h,ek,abF];simp[ek]
theorem LS (x:Rx):(cy x).length≤x.size:=by
 unfold cy;have:=dX x;have:=size_pos x
 split
 ·omega
 ·split<;>simp<;>omega
theorem Dg:∀ l:List Rx,(ek l).length≤Rx.aB l
 | []=>Z5 _
 | x :: l => by
   have:=Dg l
   have:=LS x
   rw[Rx.aB];simp only[ek,aa7,aab] at *;omega
theorem ef:∀ (l m:List Rx),Rx.aB (l++m)=Rx.aB l+Rx.aB m
 | [],m=>by rw[abP,Rx.aB,aaV]
 | x :: l,m=>by rw[abq,Rx.aB,Rx.aB,ef l m];omega
theorem je (l:List Rx)(i:Nat):Rx.aB (l.take i)+Rx.aB (l.drop i)=Rx.aB l:=by
 rw[←ef,aa3]
theorem zQ {l:List Rx}{i:Nat}(h:i<l.length):(ek (l.take i)).length+(l.getD i default).kids.length+1≤Rx.aB l:=by
 have h1:=Dg (l.take i)
 have h2:=je l i
 have h3:=xj h
 have h4:=dX (l.getD i default)
 omega
theorem iK {x:Rx}(h:x.kind=3):cy x=x.kids:=if_pos h
theorem lV {x:Rx}(h:x.kind=1):cy x=[]:=by unfold cy;rw[if_neg ace,if_pos h]
theorem eh {x:Rx}(h:x.kind≠3)(h1:x.kind≠1):cy x=[x]:=by unfold cy;rw[if_neg h,if_neg h1]
def xm (k:List Rx):Rx:=if k.length=0 then eE else if k.length=1 then k.getD 0 default else .mk 3 [] k
def cU (l:List Rx):Rx:=if l.any (fun x=>decide (x.kind=0)) then dG else xm (ek l)
theorem tX {l:List Rx}{i:Nat}(h:i<l.length)(hk:(l.getD i default).kind=0):cU l=dG:=by
 unfold cU;rw[if_pos (Hk h (decide_eq_true hk))]
theorem nu {l:List Rx}(h:∀j,j<l.length→(l.getD j default).kind≠0):cU l=xm (ek l):=by
 unfold cU;rw[FE (p:=fun x:Rx=>decide (x.kind=0)) (l:=l) fun j hj=>decide_eq_false (h j hj)];rfl
theorem FF {k:List Rx}(h:k.length=0):xm k=eE:=if_pos h
theorem FG {k:List Rx}(h:k.length=1):xm k=k.getD 0 default:=by unfold xm;rw[if_neg ace,if_pos h]
theorem rO {k:List Rx}(h:k.length≠0)(h1:k.length≠1):xm k=.mk 3 [] k:=by unfold xm;rw[if_neg h,if_neg h1]
theorem mE (k:Int)(s:List Int)(l:List Rx):rx (.mk k s l)=.agg [int k,ints s,gJ l]:=fi _
def pD (x:Rx):Rx:=if x.kind=4∧(x.kids.getD 0 default).kind=1 then(if x.kids.length=2 then x.kids.getD 1 default else .mk x.kind x.syms (x.kids.drop 1)) else x
def lh (x:Rx):Rx:=if x.kind=0∨x.kind=1 then eE else if x.kind=5 then x else .mk 5 [] [pD x]
def LU:List Int→Int
 | []=>0
 | x :: l=>nr x (LU l)
theorem Dh {l:List Int}{k:Nat}(h:k<l.length):LU (l.drop k)=nr (l.getD k default) (LU (l.drop (k+1))):=by rw[drop_cons h];rfl
theorem zR (x:Int):bQ x x=0:=by unfold bQ;rw[if_neg ace,if_neg ace]
theorem tY {x y:Int}(h:x<y):bQ x y=-1:=if_pos h
theorem zS {x y:Int}(h:y<x):bQ x y=1:=by unfold bQ;rw[if_neg ace,if_pos h]
theorem Hl (a b:Rx):LU [bQ a.kind b.kind,bB a.syms b.syms,cE a.kids b.kids]=de a b:=by
 rw[sS];unfold LU LU LU LU nr;repeat' split
 all_goals first|rfl|(simp_all;done)|omega
def en {α:Type} [Inhabited α](eq:α→α→Bool)(l:List α):Nat→List α
 | 0=>[]
 | i+1=>if 0<i∧eq (l.getD i default) (l.getD (i-1) default)=true then en eq l i else en eq l i++[l.getD i default]
def sj {α:Type} [Inhabited α](eq:α→α→Bool)(l:List α):List α:=en eq l l.length
section
variable {α:Type} [Inhabited α]{eq:α→α→Bool}{l:List α}
theorem Di (i:Nat):(en eq l i).length≤i:=by
 induction i with
 | zero=>exact Z1 _
 | succ i ih =>
   rw[en]
   split
   · omega
   · rw[aab,aaY];omega
theorem nv {i:Nat}(h0:0<i)(h:eq (l.getD i default) (l.getD (i-1) default)=true):en eq l (i+1)=en eq l i:=by rw[en,if_pos ⟨h0,h⟩]
theorem Dj {i:Nat}(h:eq (l.getD i default) (l.getD (i-1) default)=false):en eq l (i+1)=en eq l i++[l.getD i default]:=by
 rw[en,if_neg (fun q=>by rw[h] at q;exact absurd q.2 acg)]
theorem sT:en eq l 1=[l.getD 0 default]:=by rw[en,if_neg ace];rfl
theorem tZ (h:l.length<2):sj eq l=l:=by
 match l,h with
 | [],_=>rfl
 | [x],_=>exact sT
theorem ua {i:Nat}(hi:i<l.length)(h:en eq l i=l.take i)(hn:eq (l.getD i default) (l.getD (i-1) default)=false):en eq l (i+1)=l.take (i+1):=by
 rw[Dj hn,h,bD hi]
theorem Dk {ys:List α}{k:Nat}{v:α}(h:k<ys.length):(ys.set k v).getD k default=v:=by
 rw[ZY,abj h];rfl
theorem lx {ys:List α}{k j:Nat}{v:α}(h:k≠j):(ys.set k v).getD j default=ys.getD j default:=by
 rw[ZY,abo h,ZY]
theorem q8 {ys:List α}{k:Nat}{v:α}(h:k<ys.length):(ys.set k v).take (k+1)=ys.take k++[v]:=by
 rw[bD (by simpa using h),Dk h,List.take_set_of_le (Z1 _)]
theorem Br {ys:List α}{k q j:Nat}(hk:k<ys.length)(h:en eq l (q+j)=ys.take k)(hn:eq (l.getD (q+j) default) (l.getD (q+j-1) default)=false):en eq l (q+(j+1))=(ys.set k (l.getD (q+j) default)).take (k+1):=by
 rw[←Nat.add_assoc,Dj hn,h,q8 hk]
theorem xn {ys:List α}{k q j:Nat}(h0:0<q+j)(h:en eq l (q+j)=ys.take k)(hn:eq (l.getD (q+j) default) (l.getD (q+j-1) default)=true):en eq l (q+(j+1))=ys.take k:=by
 rw[←Nat.add_assoc,nv h0 hn,h]
theorem Bs {f:α→AV}{ys:List α}{X:List AV}{k n:Nat}(hk:k≤ys.length)(hn:n=l.length)(h:en eq l n=ys.take k):((ys.map f).take k++X).take k=(sj eq l).map f:=by
 subst hn
 rw[List.take_append_of_le_length (by simp;omega),List.take_take,Nat.min_self,←List.map_take,←h];rfl
theorem Bt {n:Nat}(hn:n=l.length)(h:en eq l n=l.take n):sj eq l=l:=by
 subst hn;unfold sj;rw[h,aa1]
end
def oq (x:Rx):List Rx:=if x.kind=4 then x.kids else[x]
def aW (l:List Rx):List Rx:=l.flatMap oq
def ot (s:List Int)(x:Rx):List Int:=if x.kind=2 then s++x.syms else s
def fL (k:List Rx)(x:Rx):List Rx:=if x.kind=0∨x.kind=2 then k else k++[x]
def c4 (l:List Rx):List Int:=l.foldl ot []
def eW (l:List Rx):List Rx:=l.foldl fL []
theorem nw {l:List Rx}{i:Nat}(h:i<l.length):aW (l.take (i+1))=aW (l.take i)++oq (l.getD i default):=by
 rw[bD h,aW,abF];simp[aW]
theorem iA {α:Type}(f:α→AV)(l:List α)(z:AV):(l.map f++[z])[l.length]?=some z:=by
 rw[aal (by simp)];simp
theorem xo {α:Type}{f:α→AV}{l:List α}{z:AV}{v:α}:(l.map f++[z]).set l.length (f v)=(l++[v]).map f:=by
 rw[List.set_append_right _ _ (by simp),Z0,abQ,Z8];rfl
theorem ub {s:List Int}{x:Rx}(h:x.kind=2):ot s x=s++x.syms:=if_pos h
theorem pE {s:List Int}{x:Rx}(h:x.kind≠2):ot s x=s:=if_neg h
theorem FH {k:List Rx}{x:Rx}(h:x.kind=0∨x.kind=2):fL k x=k:=if_pos h
theorem LV {k:List Rx}{x:Rx}(h:¬(x.kind=0∨x.kind=2)):fL k x=k++[x]:=if_neg h
theorem xp (a b:Int):bQ b a=- bQ a b:=by
 unfold bQ;repeat' split
 all_goals omega
theorem mF {a b:Int}(h:bQ a b=0):a=b:=by
 unfold bQ at h;repeat' split at h
 all_goals omega
theorem sU {a b c:Int}(h:bQ a b<0)(h':bQ b c<0):bQ a c<0:=by
 unfold bQ at *
 have h1:a<b:=by
  by_cases q:a<b
  ·exact q
  ·rw[if_neg q] at h;split at h<;>omega
 have h2:b<c:=by
  by_cases q:b<c
  ·exact q
  ·rw[if_neg q] at h';split at h'<;>omega
 rw[if_pos ace];decide
theorem vV {a b c d:Int}(h:b=-a)(h':d=-c):nr b d=- nr a c:=by
 unfold nr;subst h;subst h'
 by_cases q:a=0
 ·rw[if_pos ace,if_pos q]
 ·rw[if_neg ace,if_neg q]
theorem qq {a b:Int}(h:nr a b=0):a=0∧b=0:=by
 unfold nr at h
 by_cases q:a=0
 ·rw[if_pos q] at h;exact⟨q,h⟩
 ·rw[if_neg q] at h;exact absurd h q
theorem qs {α β:Type}{f:α→α→Int}{g:β→β→Int}{a b c:α}{x y z:β}(hz:∀a b,f a b=0→a=b)(hft:f a b<0→f b c<0→f a c<0)(hgt:g x y<0→g y z<0→g x z<0)
  (h:nr (f a b) (g x y)<0)(h':nr (f b c) (g y z)<0):nr (f a c) (g x z)<0:=by
 unfold nr at *
 by_cases q1:f a b=0
 ·have:=hz _ _ q1
  subst this
  rw[if_pos q1] at h
  by_cases q2:f a c=0
  ·rw[if_pos q2] at h' ⊢;exact hgt h h'
  ·rw[if_neg q2] at h' ⊢;exact h'
 ·rw[if_neg q1] at h
  by_cases q2:f b c=0
  ·have:=hz _ _ q2
   subst this
   rw[if_neg q1];exact h
  ·rw[if_neg q2] at h'
   have:=hft h h'
   rw[if_neg ace];exact this
theorem kp:∀ a b:List Int,bB b a=- bB a b
 | [],[]=>rfl
 | [],_ :: _=>rfl
 | _ :: _,[]=>rfl
 | x :: xs,y :: ys=>vV (xp x y) (kp xs ys)
theorem mH:∀ a b:List Int,bB a b=0→a=b
 | [],[],_=>rfl
 | [],_ :: _,h=>absurd (show(-1:Int)=0 from h) acg
 | _ :: _,[],h=>absurd (show(1:Int)=0 from h) acg
 | x :: xs, y :: ys, h => by
   obtain⟨h1,h2⟩:=qq h
   rw[mF h1,mH xs ys h2]
theorem jT:∀ a b c:List Int,bB a b<0→bB b c<0→bB a c<0
 | [],[],c,h,_=>absurd h acg
 | _ :: _,[],c,h,_=>absurd (show(1:Int)<0 from h) acg
 | a,_ :: _,[],_,h=>absurd (show(1:Int)<0 from h) acg
 | [],_ :: _,_ :: _,_,_=>show(-1:Int)<0 by decide
 | x :: xs,y :: ys,z :: zs,h,h'=>qs (f:=bQ) (g:=bB) (fun _ _=>mF) sU (jT xs ys zs) h h'
mutual
theorem kO:∀ a b:Rx,de b a=- de a b
 | .mk k s l, .mk k' s' l' => by
   rw[de,de]
   exact vV (xp k k') (vV (kp s s') (zT l l'))
theorem zT:∀ a b:List Rx,cE b a=- cE a b
 | [],[]=>by rw[cE];rfl
 | [],_ :: _=>by rw[cE,cE];rfl
 | _ :: _,[]=>by rw[cE,cE]
 | x :: xs, y :: ys => by
   rw[cE,cE]
   exact vV (kO x y) (zT xs ys)
end
mutual
theorem iB:∀ a b:Rx,de a b=0→a=b
 | .mk k s l, .mk k' s' l', h => by
   rw[de] at h
   obtain⟨h1,h2⟩:=qq h
   obtain⟨h2,h3⟩:=qq h2
   rw[mF h1,mH _ _ h2,xq _ _ h3];rfl
theorem xq:∀ a b:List Rx,cE a b=0→a=b
 | [],[],_=>rfl
 | [],_ :: _,h=>by rw[cE] at h;exact absurd h acg
 | _ :: _,[],h=>by rw[cE] at h;exact absurd h acg
 | x :: xs, y :: ys, h => by
   rw[cE] at h
   obtain⟨h1,h2⟩:=qq h
   rw[iB x y h1,xq xs ys h2]
end
mutual
theorem kq:∀ a b c:Rx,de a b<0→de b c<0→de a c<0
 | .mk k s l, .mk k' s' l', .mk k'' s'' l'', h, h' => by
   rw[de] at h h' ⊢
   refine qs (f:=bQ) (g:=fun(p q:List Int×List Rx)=>nr (bB p.1 q.1) (cE p.2 q.2)) (x:=(s,l)) (y:=(s',l')) (z:=(s'',l'')) (fun _ _=>mF) sU ?_ h h'
   exact fun g g'=>qs (f:=bB) (g:=cE) mH (jT _ _ _) (u5 l l' l'') g g'
theorem u5:∀ a b c:List Rx,cE a b<0→cE b c<0→cE a c<0
 | [],[],c,h,_=>by rw[cE] at h;exact absurd h acg
 | _ :: _,[],c,h,_=>by rw[cE] at h;exact absurd h acg
 | a,_ :: _,[],_,h=>by rw[cE] at h;exact absurd h acg
 | [],_ :: _,_ :: _,_,_=>by rw[cE];decide
 | x :: xs, y :: ys, z :: zs, h, h' => by
   rw[cE] at h h' ⊢
   exact qs (f:=de) (g:=cE) iB (kq x y z) (u5 xs ys zs) h h'
end
theorem zU (a:Rx):de a a=0:=by have:=kO a a;omega
theorem xt (a:Rx):¬de a a<0:=by rw[zU];decide
theorem Dl {a b:Rx}(h:¬de a b<0)(h':¬de b a<0):a=b:=iB a b (by have:=kO a b;omega)
def c5 (l:List Rx):List Int:=c4 (aW l)
def dP (l:List Rx):List Rx:=eW (aW l)
section
variable {α:Type} {le:α→α→Bool}
def I6 (le:α→α→Bool)(x:α):List α→List α
 | []=>[x]
 | y :: l=>if le x y=true then x :: y :: l else y :: I6 le x l
def uc (le:α→α→Bool):List α→List α
 | []=>[]
 | x :: l=>I6 le x (uc le l)
theorem ud (x:α):∀l:List α,(I6 le x l).Perm (x :: l)
 | []=>.refl _
 | y :: l => by
   rw[I6]
   split
   · exact .refl _
   · exact((ud x l).cons y).trans (.swap x y l)
theorem jm:∀ l:List α,(uc le l).Perm l
 | []=>.refl _
 | x :: l=>(ud x _).trans ((jm l).cons x)
theorem Hm (tr:∀a b c,le a b=true→le b c=true→le a c=true)(to:∀a b,(le a b||le b a)=true)(x:α):∀{l:List α},(l.Pairwise fun x y=>le x y=true)→(I6 le x l).Pairwise fun x y=>le x y=true
 | [],_=>abr _ _
 | y :: l, h => by
   have h':=aaF.1 h
   rw[I6]
   split
   · next hxy=>exact aaF.2 ⟨fun z hz=>(aah.1 hz).elim (fun e=>by rw[e];exact hxy) fun hz=>tr _ _ _ hxy (h'.1 z hz),h⟩
   · next hxy =>
     have hyx:le y x=true:=by have:=to x y;rw[aaO] at this;exact this.elim (fun q=>absurd q hxy) id
     refine aaF.2 ⟨fun z hz=>?_,Hm tr to x h'.2⟩
     rcases aah.1 ((ud x l).mem_iff.1 hz) with e|hz
     · rw[e];exact hyx
     · exact h'.1 z hz
theorem sV (tr:∀a b c,le a b=true→le b c=true→le a c=true)(to:∀a b,(le a b||le b a)=true):∀l:List α,(uc le l).Pairwise fun x y=>le x y=true
 | []=>.nil
 | x :: l=>Hm tr to x (sV tr to l)
theorem u6 (an:∀a b,le a b=true→le b a=true→a=b):∀{l m:List α},l.Perm m→(l.Pairwise fun x y=>le x y=true)→(m.Pairwise fun x y=>le x y=true)→l=m
 | [],m,h,_,_=>(List.nil_perm.1 h).symm
 | x :: l,[],h,_,_=>absurd h.length_eq (by simp)
 | x :: l, y :: m, h, h1, h2 => by
   have h1':=aaF.1 h1
   have h2':=aaF.1 h2
   have e:x=y:=by
     rcases aah.1 (h.mem_iff.1 Z7) with q|q
     · exact q
     · rcases aah.1 (h.mem_iff.2 Z7) with q' | q'
       · exact q'.symm
       · exact an _ _ (h1'.1 y q') (h2'.1 x q)
   subst e
   rw[u6 an (List.Perm.cons_inv h) h1'.2 h2'.2]
theorem u7 (tr:∀a b c,le a b=true→le b c=true→le a c=true)(to:∀a b,(le a b||le b a)=true)(an:∀a b,le a b=true→le b a=true→a=b)(l:List α):l.mergeSort le=uc le l :=
 u6 an ((List.mergeSort_perm l le).trans (jm l).symm) (List.pairwise_mergeSort tr to l) (sV tr to l)
end
abbrev qO (x y:Rx):Bool:=!decide (de y x<0)
abbrev E6 (x y:Int):Bool:=decide (x≤y)
def jD (s:List Int):List Int:=uc E6 s
def jU (k:List Rx):List Rx:=uc qO k
theorem ou {x y:Rx}:qO x y=true↔de x y≤0:=by
 have:=kO x y;show(!decide (de y x<0))=true↔_;rw[aaJ,decide_eq_false_iff_not];omega
theorem xu (a b:Rx)(h:qO a b=true)(h':qO b a=true):a=b:=iB _ _ (by have:=ou.1 h;have:=ou.1 h';have:=kO a b;omega)
theorem LW (a b c:Rx)(h:qO a b=true)(h':qO b c=true):qO a c=true:=by
 rw[ou] at *
 by_cases h1:de a b=0
 ·rw[iB _ _ h1];exact h'
 ·by_cases h2:de b c=0
  ·rw[←iB _ _ h2];exact h
  ·exact Int.le_of_lt (kq a b c ace ace)
theorem LX (a b:Rx):(qO a b||qO b a)=true:=by
 rw[aaO,ou,ou];have:=kO a b;omega
theorem ue (a b:Int)(h:E6 a b=true)(h':E6 b a=true):a=b:=by have:=of_decide_eq_true h;have:=of_decide_eq_true h';omega
theorem LY (a b c:Int)(h:E6 a b=true)(h':E6 b c=true):E6 a c=true:=by have:=of_decide_eq_true h;have:=of_decide_eq_true h';exact decide_eq_true ace
theorem LZ (a b:Int):(E6 a b||E6 b a)=true:=by rw[aaO,decide_eq_true_eq,decide_eq_true_eq];omega
theorem u9 (k:List Rx):(k.mergeSort fun x y=>!decide (de y x<0))=jU k:=u7 LW LX xu k
theorem vd (s:List Int):(s.mergeSort fun x y=>decide (x≤y))=jD s:=u7 LY LZ ue s
abbrev OC (x y:Int):Bool:=decide (x=y)
abbrev Hn (x y:Rx):Bool:=decide (de x y=0)
def j5 (s:List Int)(k:List Rx):List Rx:=if 0<s.length then k++[.mk 2 (sj OC (jD s)) []] else k
def dS (l:List Rx):List Rx:=sj Hn (jU (j5 (c5 l) (dP l)))
def j6 (k:List Rx):List Rx:=if 1<k.length∧(k.getD 0 default).kind=1∧(k.drop 1).any cP=true then k.drop 1 else k
def vN (k:List Rx):Rx:=if k.length=0 then dG else if k.length=1 then k.getD 0 default else .mk 4 [] k
def gN (l:List Rx):Rx:=vN (j6 (dS l))
theorem FI {k:List Rx}(h:k.length=0):vN k=dG:=if_pos h
theorem Bu {k:List Rx}(h:k.length=1):vN k=k.getD 0 default:=by unfold vN;rw[if_neg ace,if_pos h]
theorem xv {k:List Rx}(h:k.length≠0)(h1:k.length≠1):vN k=.mk 4 [] k:=by unfold vN;rw[if_neg h,if_neg h1]
theorem xw {k:List Rx}(h:1<k.length)(h1:(k.getD 0 default).kind=1)(h2:(k.drop 1).any cP=true):j6 k=k.drop 1:=if_pos ⟨h,h1,h2⟩
theorem lW {k:List Rx}(h:¬(1<k.length∧(k.getD 0 default).kind=1∧(k.drop 1).any cP=true)):j6 k=k:=if_neg h
theorem L0 {s:List Int}{k:List Rx}(h:0<s.length):j5 s k=k++[.mk 2 (sj OC (jD s)) []]:=if_pos h
theorem L1 {s:List Int}{k:List Rx}(h:¬0<s.length):j5 s k=k:=if_neg h
theorem gF {x:Rx}(h:x.kind=4):oq x=x.kids:=if_pos h
theorem jo {x:Rx}(h:x.kind≠4):oq x=[x]:=if_neg h
theorem qt (l:List Rx)(x:Rx):c4 (l++[x])=ot (c4 l) x:=by unfold c4;rw[abf];rfl
theorem qu (l:List Rx)(x:Rx):eW (l++[x])=fL (eW l) x:=by unfold eW;rw[abf];rfl
theorem zV {m l:List Rx}{j:Nat}(h:j<l.length):c4 (m++l.take (j+1))=ot (c4 (m++l.take j)) (l.getD j default):=by
 rw[bD h,←aaI,qt]
theorem zW {m l:List Rx}{j:Nat}(h:j<l.length):eW (m++l.take (j+1))=fL (eW (m++l.take j)) (l.getD j default):=by
 rw[bD h,←aaI,qu]
theorem L2 (l:List Rx):∀m:List Rx,(c4 (m++l)).length+Rx.aB (eW (m++l))≤(c4 m).length+Rx.aB (eW m)+Rx.aB l:=by
 induction l with
 | nil=>intro m;rw[aav];omega
 | cons x l ih =>
   intro m
   have h:=ih (m++[x])
   rw[aaI,List.singleton_append,qt,qu] at h
   rw[Rx.aB]
   have h1:(ot (c4 m) x).length+Rx.aB (fL (eW m) x)≤(c4 m).length+Rx.aB (eW m)+x.size:=by
     unfold ot fL
     have:=eA x
     by_cases h2:x.kind=2
     · rw[if_pos h2,if_pos (.inr h2),aab];omega
     · rw [if_neg h2]
       split
       · omega
       · rw[ef,Rx.aB,Rx.aB];omega
   omega
theorem vW (l:List Rx):(c4 l).length+Rx.aB (eW l)≤Rx.aB l:=by
 have:=L2 l []
 rw[abP] at this
 have h1:(c4 []).length+Rx.aB (eW [])=0:=by rfl
 omega
theorem kr:∀ l:List Rx,Rx.aB (aW l)≤Rx.aB l
 | []=>Z1 _
 | x :: l => by
   have:=kr l
   have e:aW (x :: l)=oq x++aW l:=rfl
   rw[e,ef,Rx.aB]
   have h:Rx.aB (oq x)≤x.size:=by
     unfold oq
     split
     · rw[size_eq];omega
     · rw[Rx.aB,Rx.aB];omega
   omega
theorem gB (l:List Rx)(i:Nat):Rx.aB (l.take i)≤Rx.aB l:=by have:=je l i;omega
theorem xx {l m:List Rx}(h:l.Perm m):Rx.aB l=Rx.aB m:=by
 induction h with
 | nil=>rfl
 | cons x _ ih=>rw[Rx.aB,Rx.aB,ih]
 | swap x y l=>rw[Rx.aB,Rx.aB,Rx.aB,Rx.aB];omega
 | trans _ _ h1 h2=>omega
theorem L3 {α:Type} [Inhabited α]{eq:α→α→Bool}{l:List α}{x:α}:∀i,i≤l.length→x∈en eq l i→x∈l:=by
 intro i
 induction i with
 | zero=>intro _ h;cases h
 | succ i ih =>
   intro hi h
   rw[en] at h
   split at h
   · exact ih ace h
   · rcases aaC.1 h with h | h
     · exact ih ace h
     · rw [aag] at h
       subst h
       rw[ZY,Z3 ace]
       exact aa4 ace
theorem O6 {α:Type} [Inhabited α]{eq:α→α→Bool}{l:List α}{x:α}(h:x∈sj eq l):x∈l:=L3 _ (Z1 _) h
theorem vX {α:Type} [Inhabited α]{eq:α→α→Bool}{l:List α}:(sj eq l).length≤l.length:=Di _
abbrev WI (r:Rx):List AV:=[int r.kind,ints r.syms,.sl (Rx.gi r.kids)]
theorem L4 (l:List Rx):(c5 l).length+Rx.aB (dP l)≤Rx.aB l:=aau (vW _) (kr l)
theorem qv (s:List Int):(jD s).length=s.length:=(jm s).length_eq
theorem qw (k:List Rx):(jU k).length=k.length:=(jm k).length_eq
theorem lF {k:List Rx}{x:Rx}:x∈jU k↔x∈k:=(jm k).mem_iff
theorem xy (s:List Int)(k:List Rx):Rx.aB (j5 s k)≤1+s.length+Rx.aB k:=by
 unfold j5
 split
 ·rw[ef,Rx.aB,Rx.aB,Rx.size,Rx.aB]
  have:=vX (eq:=OC) (l:=jD s)
  rw[qv] at this
  omega
 ·omega
theorem sW {l:List Rx}{x:Rx}(h:x∈dS l):x∈j5 (c5 l) (dP l):=lF.1 (O6 h)
theorem vY {x:Rx}(h:x.kind=0∨x.kind=1):lh x=eE:=if_pos h
theorem vZ {x:Rx}(h:x.kind=5):lh x=x:=by unfold lh;rw[if_neg ace,if_pos h]
theorem ov {x:Rx}(h:¬(x.kind=0∨x.kind=1))(h5:x.kind≠5):lh x=.mk 5 [] [pD x]:=by unfold lh;rw[if_neg h,if_neg h5]
theorem qy {x:Rx}(h:¬(x.kind=4∧(x.kids.getD 0 default).kind=1)):pD x=x:=if_neg h
theorem v7 {x:Rx}(h:x.kind=4∧(x.kids.getD 0 default).kind=1)(h2:x.kids.length=2):pD x=x.kids.getD 1 default:=by unfold pD;rw[if_pos h,if_pos h2]
theorem v8 {x:Rx}(h:x.kind=4∧(x.kids.getD 0 default).kind=1)(h2:x.kids.length≠2):pD x=.mk x.kind x.syms (x.kids.drop 1):=by unfold pD;rw[if_pos h,if_neg h2]
theorem xz {α:Type} [Inhabited α]{l:List α}:(l.drop 1).getD 0 default=l.getD 1 default:=by cases l<;>simp
theorem Ho (y:Rx):gJ [y]=.sl [rx y]:=rfl
theorem Sl (x:Rx)(l:List Rx):rx (.mk x.kind x.syms l)=.agg [int x.kind,ints x.syms,gJ l]:=fi _
mutual
def aJ (t:Bool):Rx→Rx
 | .mk k s l=>if k=3 then cU (if t then(mI t l).reverse else mI t l) else if k=4 then gN (mI t l) else if k=5 then lh ((mI t l).getD 0 default) else .mk k s []
def mI (t:Bool):List Rx→List Rx
 | []=>[]
 | x :: l=>aJ t x :: mI t l
end
theorem ve (t:Bool):∀l:List Rx,mI t l=l.map (aJ t)
 | []=>by rw[mI];rfl
 | x :: l=>by rw[mI,ve t l];rfl
theorem ny (t:Bool)(r:Rx):aJ t r=if r.kind=3 then cU (if t then(r.kids.map (aJ t)).reverse else r.kids.map (aJ t)) else if r.kind=4 then gN (r.kids.map (aJ t)) else
  if r.kind=5 then lh ((r.kids.map (aJ t)).getD 0 default) else .mk r.kind r.syms []:=by
 cases r with|mk k s l=>rw[aJ,ve];rfl
theorem lG {r:Rx}(h:r.kind=3):aJ false r=cU (r.kids.map (aJ false)):=by rw[ny,if_pos h];rfl
theorem nz {r:Rx}(h:r.kind=3):aJ true r=cU (r.kids.map (aJ true)).reverse:=by rw[ny,if_pos h];rfl
theorem zX {t:Bool}{r:Rx}(h:r.kind=3)(ht:t=true):aJ t r=cU (r.kids.map (aJ t)).reverse:=by rw[ht];exact nz h
theorem zY {t:Bool}{r:Rx}(h:r.kind=3)(ht:t=false):aJ t r=cU (r.kids.map (aJ t)):=by rw[ht];exact lG h
theorem kP {t:Bool}{r:Rx}(h:r.kind=4):aJ t r=gN (r.kids.map (aJ t)):=by rw[ny,if_neg ace,if_pos h]
theorem kQ {t:Bool}{r:Rx}(h:r.kind=5):aJ t r=lh ((r.kids.map (aJ t)).getD 0 default):=by rw[ny,if_neg ace,if_neg ace,if_pos h]
theorem jV {t:Bool}{r:Rx}(h:r.kind≠3)(h4:r.kind≠4)(h5:r.kind≠5):aJ t r=.mk r.kind r.syms []:=by rw[ny,if_neg h,if_neg h4,if_neg h5]
theorem getD_map {α β:Type} [Inhabited α] [Inhabited β]{f:α→β}{l:List α}{i:Nat}(h:i<l.length):(l.map f).getD i default=f (l.getD i default):=by
 rw[ZY,Z6,ZY,Z3 h];rfl
section
variable {α:Type} [Inhabited α]{le eq:α→α→Bool}
def pF (le:α→α→Bool)(l:List α):Prop:=l.Pairwise fun x y=>le x y=true∧x≠y
theorem qz (an:∀a b,le a b=true→le b a=true→a=b):∀{l m:List α},pF le l→pF le m→(∀x,x∈l↔x∈m)→l=m
 | [],[],_,_,_=>rfl
 | [],y :: m,_,_,h=>absurd ((h y).2 Z7) (by simp)
 | x :: l,[],_,_,h=>absurd ((h x).1 Z7) (by simp)
 | x :: l, y :: m, hl, hm, h => by
   have hl':=aaF.1 hl
   have hm':=aaF.1 hm
   have e:x=y:=by
     rcases aah.1 ((h x).1 Z7) with q|q
     · exact q
     · rcases aah.1 ((h y).2 Z7) with q' | q'
       · exact q'.symm
       · exact an _ _ (hl'.1 _ q').1 (hm'.1 _ q).1
   subst e
   rw[qz an hl'.2 hm'.2 fun z=>⟨fun hz=>?_,fun hz=>?_⟩]
   · rcases aah.1 ((h z).1 (aac _ hz)) with q | q
     · exact absurd q.symm (hl'.1 _ hz).2
     · exact q
   · rcases aah.1 ((h z).2 (aac _ hz)) with q | q
     · exact absurd q.symm (hm'.1 _ hz).2
     · exact q
theorem dw {l:List α}{i:Nat}(h:i<l.length):l.getD i default=l[i]:=by rw[ZY,Z3 h];rfl
theorem jE {R:α→α→Prop}{l:List α}(h:l.Pairwise R){i j:Nat}(hij:i<j)(hj:j<l.length):R (l.getD i default) (l.getD j default):=by
 rw[dw ace,dw hj];exact abx.1 h i j ace hj hij
theorem q9 {l:List α}{i:Nat}{a:α}(h:a∈l.take i):∃j,j<i∧j<l.length∧a=l.getD j default:=by
 obtain⟨j,hj,e⟩:=aaR h
 rw[aaa] at hj
 refine⟨j,ace,ace,?_⟩
 rw[dw ace,←e,List.getElem_take]
theorem getD_mem_take {l:List α}{i j:Nat}(h:j<i)(hj:j<l.length):l.getD j default∈l.take i:=by
 rw[dw hj];exact List.mem_take_iff_getElem.2 ⟨j,ace,rfl⟩
theorem Dm (an:∀a b,le a b=true→le b a=true→a=b)(heq:∀a b,eq a b=true↔a=b){l:List α}(h:l.Pairwise fun x y=>le x y=true) :
   ∀i,i≤l.length→pF le (en eq l i)∧∀x,x∈en eq l i↔x∈l.take i
 | 0,_=>⟨.nil,fun x=>by simp[en]⟩
 | i + 1, hi => by
   obtain⟨h1,h2⟩:=Dm an heq h i ace
   by_cases q:0<i∧eq (l.getD i default) (l.getD (i-1) default)=true
   · rw [nv q.1 q.2]
     refine⟨h1,fun x=>?_⟩
     rw[h2,bD ace,aaC,aag]
     refine⟨.inl,fun hx=>hx.elim id fun hx=>?_⟩
     rw[hx,(heq _ _).1 q.2]
     exact getD_mem_take ace ace
   · rw [en, if_neg q]
     refine⟨List.pairwise_append.2 ⟨h1,abr _ _,fun a ha b hb=>?_⟩,fun x=>by rw[bD ace,aaC,aaC,h2]⟩
     rw[aag] at hb
     subst hb
     obtain⟨j,hj,hj',rfl⟩:=q9 ((h2 a).1 ha)
     refine⟨jE h hj ace,fun e=>q ⟨ace,(heq _ _).2 ?_⟩⟩
     by_cases e1:j=i-1
     · rw[←e1];exact e.symm
     · refine an _ _ ?_ (jE h ace ace)
       rw[←e];exact jE h ace ace
theorem wa (an:∀a b,le a b=true→le b a=true→a=b)(heq:∀a b,eq a b=true↔a=b){l:List α}(h:l.Pairwise fun x y=>le x y=true) :
  pF le (sj eq l)∧∀x,x∈sj eq l↔x∈l:=by
 have h1:=Dm an heq h l.length (Z1 _)
 rw[aa1] at h1;exact h1
end
theorem Hp (a b:Rx):Hn a b=true↔a=b:=by
 show decide _=true↔_;rw[decide_eq_true_eq];exact⟨iB _ _,fun e=>by rw[e,zU]⟩
def Sm (k:List Rx):List Rx:=sj Hn (jU k)
def uf (s:List Int):List Int:=sj OC (jD s)
theorem Dn (k:List Rx):(jU k).Pairwise fun x y=>qO x y=true:=sV LW LX k
theorem Dp (s:List Int):(jD s).Pairwise fun x y=>E6 x y=true:=sV LY LZ s
theorem pG (k:List Rx):pF qO (Sm k):=(wa xu Hp (Dn k)).1
theorem jW {k:List Rx}{x:Rx}:x∈Sm k↔x∈k:=((wa xu Hp (Dn k)).2 x).trans lF
theorem pH (s:List Int):pF E6 (uf s):=(wa ue (fun a b=>decide_eq_true_iff) (Dp s)).1
theorem I7 {s:List Int}{x:Int}:x∈jD s↔x∈s:=(jm s).mem_iff
theorem kR {s:List Int}{x:Int}:x∈uf s↔x∈s:=((wa ue (fun a b=>decide_eq_true_iff) (Dp s)).2 x).trans I7
theorem L5 {s t:List Int}(h:∀x,x∈s↔x∈t):uf s=uf t:=qz ue (pH s) (pH t) fun x=>by rw[kR,kR];exact h x
theorem I8 {s:List Int}(h:pF E6 s):uf s=s:=qz ue (pH s) h fun x=>kR
theorem jF {s:List Int}:jS s=true↔0<s.length∧pF E6 s∧∀x∈s,0≤x∧x<64:=by
 unfold jS;rw[decide_eq_true_eq]
 refine⟨fun⟨h0,h⟩=>⟨h0,?_,fun x hx=>?_⟩,fun⟨h0,h1,h2⟩=>⟨h0,fun j hj=>?_⟩⟩
 · have hlt : ∀ (n i j : Nat), j = i + n + 1 → j < s.length → s.getD i default < s.getD j default := by
     intro n
     induction n with
     | zero =>
       intro i j e hj
       have:=(h j hj).2.2 ace
       rwa [show((j:Int)-1).toNat=i by omega] at this
     | succ n ih =>
       intro i j e hj
       have h1:=ih i (j-1) ace ace
       have:=(h j hj).2.2 ace
       rw[show((j:Int)-1).toNat=j-1 by omega] at this
       omega
   refine abx.2 fun i j hi hj hij=>?_
   have:=hlt (j-i-1) i j ace hj
   rw[dw hi,dw hj] at this
   exact⟨decide_eq_true ace,ace⟩
 · obtain ⟨j, hj, e⟩ := aaR hx
   have:=h j hj
   unfold vM at this;rw[dw hj,e] at this
   exact⟨this.1,this.2.1⟩
 · unfold vM
   refine⟨(h2 _ (by rw[dw hj];exact aa4 hj)).1,(h2 _ (by rw[dw hj];exact aa4 hj)).2,fun q=>?_⟩
   have h3:=jE h1 (i:=((j:Int)-1).toNat) (j:=j) ace hj
   have h4:=of_decide_eq_true h3.1
   have h5:=h3.2
   omega
theorem sX (l:List Rx):eW l=l.filter fun x=>!decide (x.kind=0∨x.kind=2):=by
 have:∀(l m:List Rx),l.foldl fL m=m++l.filter fun x=>!decide (x.kind=0∨x.kind=2):=by
   intro l
   induction l with
   | nil=>intro m;simp
   | cons x l ih =>
     intro m
     rw[abD,ih]
     by_cases h:x.kind=0∨x.kind=2
     · rw[FH h,abB (by simp[h])]
     · rw[LV h,abS (by simp[h]),aaI];rfl
 exact this l []
theorem I9 {l:List Rx}{x:Rx}:x∈eW l↔x∈l∧x.kind≠0∧x.kind≠2:=by
 rw[sX,aaS,aaJ,decide_eq_false_iff_not]
 exact⟨fun h=>⟨h.1,fun e=>h.2 (.inl e),fun e=>h.2 (.inr e)⟩,fun h=>⟨h.1,fun e=>e.elim h.2.1 h.2.2⟩⟩
theorem Ja {l:List Rx}{z:Int}:z∈c4 l↔∃x∈l,x.kind=2∧z∈x.syms:=by
 have:∀(l:List Rx)(s:List Int),z∈l.foldl ot s↔z∈s∨∃x∈l,x.kind=2∧z∈x.syms:=by
   intro l
   induction l with
   | nil=>intro s;simp
   | cons x l ih =>
     intro s
     rw[abD,ih]
     by_cases h:x.kind=2
     · rw[ub h,aaC];simp[h,or_assoc]
     · rw[pE h];simp[h]
 exact(this l []).trans (by simp)
theorem pI {l:List Rx}{x:Rx}:x∈aW l↔∃y∈l,x∈oq y:=abv
theorem ia {l:List Rx}{x:Rx}:x∈dP l↔x∈aW l∧x.kind≠0∧x.kind≠2:=I9
theorem kS {l:List Rx}{z:Int}:z∈c5 l↔∃x∈aW l,x.kind=2∧z∈x.syms:=Ja
theorem gq {s:List Int}{k:List Rx}{x:Rx}:x∈j5 s k↔x∈k∨(0<s.length∧x=.mk 2 (uf s) []):=by
 unfold j5
 by_cases h:0<s.length
 ·rw[if_pos h,aaC,aag];exact or_congr_right ⟨fun e=>⟨h,e⟩,fun e=>e.2⟩
 ·rw[if_neg h];exact⟨.inl,fun e=>e.elim id fun e=>absurd e.1 h⟩
theorem jX (l:List Rx):dS l=Sm (j5 (c5 l) (dP l)):=rfl
inductive Nf:Rx→Prop
 | none:Nf (.mk 0 [] [])
 | empty:Nf (.mk 1 [] [])
 | set {s:List Int}:jS s=true→Nf (.mk 2 s [])
 | seq {l:List Rx}:2≤l.length→(∀x,x∈l→Nf x)→(∀x∈l,x.kind≠0∧x.kind≠1∧x.kind≠3)→Nf (.mk 3 [] l)
 | alt {l:List Rx}:2≤l.length→(∀x,x∈l→Nf x)→(∀x∈l,x.kind≠0∧x.kind≠4)→pF qO l→(∀x∈l,∀y∈l,x.kind=2→y.kind=2→x=y) →
  (∀x∈l,x.kind=1→∀y∈l,y.kind≠1→cP y=false)→Nf (.mk 4 [] l)
 | star {x:Rx}:Nf x→x.kind≠0∧x.kind≠1∧x.kind≠5→(x.kind=4→∀y∈x.kids,y.kind≠1)→Nf (.mk 5 [] [x])
theorem Nf.kinds {x:Rx}(h:Nf x):0≤x.kind∧x.kind≤5:=by cases h<;>exact⟨by simp[Rx.kind],by simp[Rx.kind]⟩
theorem Nf.k1 {x:Rx}(h:Nf x)(hk:x.kind=1):x=eE:=by cases h<;>first|rfl|exact absurd hk (by simp[Rx.kind])
theorem Nf.k0 {x:Rx}(h:Nf x)(hk:x.kind=0):x=dG:=by cases h<;>first|rfl|exact absurd hk (by simp[Rx.kind])
theorem Nf.k2 {x:Rx}(h:Nf x)(hk:x.kind=2):x=.mk 2 x.syms []∧jS x.syms=true:=by
 cases h with
 | set h=>exact⟨rfl,h⟩
 | _=>exact absurd hk (by simp[Rx.kind])
theorem Nf.k3 {x:Rx}(h:Nf x)(hk:x.kind=3):x=.mk 3 [] x.kids∧2≤x.kids.length∧(∀y,y∈x.kids→Nf y)∧(∀y∈x.kids,y.kind≠0∧y.kind≠1∧y.kind≠3):=by
 cases h with
 | seq h1 h2 h3=>exact⟨rfl,h1,h2,h3⟩
 | _=>exact absurd hk (by simp[Rx.kind])
theorem Nf.k4 {x:Rx}(h:Nf x)(hk:x.kind=4):x=.mk 4 [] x.kids∧2≤x.kids.length∧(∀y,y∈x.kids→Nf y)∧(∀y∈x.kids,y.kind≠0∧y.kind≠4)∧pF qO x.kids ∧
  (∀y∈x.kids,∀z∈x.kids,y.kind=2→z.kind=2→y=z)∧(∀y∈x.kids,y.kind=1→∀z∈x.kids,z.kind≠1→cP z=false):=by
 cases h with
 | alt h1 h2 h3 h4 h5 h6=>exact⟨rfl,h1,h2,h3,h4,h5,h6⟩
 | _=>exact absurd hk (by simp[Rx.kind])
theorem Nf.k5 {x:Rx}(h:Nf x)(hk:x.kind=5):∃y,x=.mk 5 [] [y]∧Nf y∧(y.kind≠0∧y.kind≠1∧y.kind≠5)∧(y.kind=4→∀z∈y.kids,z.kind≠1):=by
 cases h with
 | star h1 h2 h3=>exact⟨_,rfl,h1,h2,h3⟩
 | _=>exact absurd hk (by simp[Rx.kind])
theorem Hq {x y:Rx}(h:Nf x)(h0:x.kind≠0)(hy:y∈cy x):Nf y∧y.kind≠0∧y.kind≠1∧y.kind≠3:=by
 by_cases h3:x.kind=3
 ·rw[iK h3] at hy
  obtain⟨_,_,h4,h5⟩:=h.k3 h3
  exact⟨h4 y hy,h5 y hy⟩
 ·by_cases h1:x.kind=1
  ·rw[lV h1] at hy;cases hy
  ·rw[eh h3 h1,aag] at hy
   subst hy;exact⟨h,h0,h1,h3⟩
theorem xA {l:List Rx}(P:Rx→Prop)(hn:P dG)(he:(∀x∈l,x.kind≠0)→P (xm (ek l))):P (cU l):=by
 unfold cU
 by_cases h:l.any (fun x=>decide (x.kind=0))=true
 ·rw[if_pos h];exact hn
 ·rw[if_neg h]
  exact he fun x hx e=>h (aay.2 ⟨x,hx,decide_eq_true e⟩)
theorem kC {l:List Rx}(h:∀x∈l,Nf x):Nf (cU l):=by
 refine xA Nf .none fun h0=>?_
 have hm:∀y∈ek l,Nf y∧y.kind≠0∧y.kind≠1∧y.kind≠3:=fun y hy=>by
  obtain⟨x,hx,hy⟩:=abv.1 hy
  exact Hq (h x hx) (h0 x hx) hy
 unfold xm
 split
 ·exact .empty
 ·split
  ·exact(hm _ (aP ace)).1
  ·exact .seq ace (fun x hx=>(hm x hx).1) fun x hx=>(hm x hx).2
theorem Hr {x y:Rx}(h:Nf x)(hy:y∈oq x):Nf y∧y.kind≠4:=by
 by_cases h4:x.kind=4
 ·rw[gF h4] at hy
  obtain⟨_,_,h5,h6,_⟩:=h.k4 h4
  exact⟨h5 y hy,(h6 y hy).2⟩
 ·rw[jo h4,aag] at hy
  subst hy;exact⟨h,h4⟩
theorem sY {l:List Rx}(h:∀x∈l,Nf x){y:Rx}(hy:y∈aW l):Nf y∧y.kind≠4:=by
 obtain⟨x,hx,hy⟩:=pI.1 hy
 exact Hr (h x hx) hy
theorem O7 {s:List Int}(h0:0<s.length)(h:∀x∈s,0≤x∧x<64):jS (uf s)=true:=by
 refine jF.2 ⟨?_,pH s,fun x hx=>h x (kR.1 hx)⟩
 obtain⟨x,hx⟩:=abd.1 h0
 exact abd.2 ⟨x,kR.2 hx⟩
theorem Hs {l:List Rx}(h:∀x∈l,Nf x){z:Int}(hz:z∈c5 l):0≤z∧z<64:=by
 obtain⟨x,hx,hk,hz⟩:=kS.1 hz
 exact(jF.1 ((sY h hx).1.k2 hk).2).2.2 z hz
theorem wb {l:List Rx}(h:∀x∈l,Nf x){y:Rx}(hy:y∈dS l):Nf y∧y.kind≠0∧y.kind≠4:=by
 rw[jX,jW,gq] at hy
 rcases hy with hy|⟨h0,rfl⟩
 ·have h1:=ia.1 hy
  exact⟨(sY h h1.1).1,h1.2.1,(sY h h1.1).2⟩
 ·exact⟨.set (O7 h0 fun x hx=>Hs h hx),by show ¬(2:Int)=0;decide,by show ¬(2:Int)=4;decide⟩
theorem xB {l:List Rx}{x y:Rx}(hx:x∈dS l)(hy:y∈dS l)(h:x.kind=2)(h':y.kind=2):x=y:=by
 have q:∀{z:Rx},z∈dS l→z.kind=2→z=.mk 2 (uf (c5 l)) []:=fun{z} hz hk=>by
  rw[jX,jW,gq] at hz
  rcases hz with hz|hz
  ·exact absurd hk (ia.1 hz).2.2
  ·exact hz.2
 rw[q hx h,q hy h']
theorem L6 {x y:Rx}(h:x.kind<y.kind):de x y=-1:=by
 rw[sS,tY h];rfl
theorem eX {l:List Rx}(hs:pF qO l)(hn:∀x∈l,Nf x∧x.kind≠0){x:Rx}(hx:x∈l)(hk:x.kind=1):(l.getD 0 default)=x:=by
 match l,hs,hn,hx with
 | y :: l, hs, hn, hx =>
   show y=x
   rcases aah.1 hx with e|hx
   · exact e.symm
   · have h1 := (aaF.1 hs).1 x hx
     have h2:=(hn y Z7)
     have h3:=h2.1.kinds
     by_cases e:y.kind=1
     · rw[h2.1.k1 e,(hn x (aac _ hx)).1.k1 hk]
     · have h4 := L6 (x := x) (y := y) (by have := h2.2; omega)
       have h5:=ou.1 h1.1
       have:=kO x y
       omega
theorem nA {l:List Rx}(hs:pF qO l){x:Rx}(hx:x∈l.drop 1):x≠l.getD 0 default∧x∈l:=by
 match l,hs,hx with
 | [],_,hx=>cases hx
 | y :: l,hs,hx=>exact⟨fun e=>((aaF.1 hs).1 x hx).2 e.symm,aac _ hx⟩
theorem nB {l:List Rx}{x:Rx}(hx:x∈l)(h:x≠l.getD 0 default):x∈l.drop 1:=by
 match l,hx with
 | y :: l,hx=>exact(aah.1 hx).elim (fun e=>absurd e h) id
theorem Bv {D:List Rx}(hs:pF qO D)(hn:∀x∈D,Nf x∧x.kind≠0∧x.kind≠4)(h2:∀x∈D,∀y∈D,x.kind=2→y.kind=2→x=y) :
   (∀x∈j6 D,x∈D)∧pF qO (j6 D)∧(∀x∈j6 D,x.kind=1→∀y∈j6 D,y.kind≠1→cP y=false):=by
 by_cases h:1<D.length∧(D.getD 0 default).kind=1∧(D.drop 1).any cP=true
 · rw [xw h.1 h.2.1 h.2.2]
   refine⟨fun x hx=>aaE hx,List.Pairwise.drop hs,fun x hx hk=>?_⟩
   have h3:=nA hs hx
   exact absurd (eX hs (fun x hx=>⟨(hn x hx).1,(hn x hx).2.1⟩) h3.2 hk).symm h3.1
 · rw [lW h]
   refine⟨fun x hx=>hx,hs,fun x hx hk y hy hy1=>?_⟩
   have e:=eX hs (fun x hx=>⟨(hn x hx).1,(hn x hx).2.1⟩) hx hk
   have hy2:y∈D.drop 1:=nB hy fun q=>hy1 (by rw[q,e];exact hk)
   cases ha:cP y with
   | false=>rfl
   | true =>
     refine absurd ⟨?_,by rw[e];exact hk,aay.2 ⟨y,hy2,ha⟩⟩ h
     have:=abI hy2
     rw[aad] at this;omega
theorem O8 {C:List Rx}(hs:pF qO C)(hn:∀x∈C,Nf x∧x.kind≠0∧x.kind≠4)(h2:∀x∈C,∀y∈C,x.kind=2→y.kind=2→x=y)
  (h1:∀x∈C,x.kind=1→∀y∈C,y.kind≠1→cP y=false):Nf (vN C):=by
 unfold vN
 split
 ·exact .none
 ·split
  ·exact(hn _ (aP ace)).1
  ·exact .alt ace (fun x hx=>(hn x hx).1) (fun x hx=>(hn x hx).2) hs h2 h1
theorem Bw {l:List Rx}(h:∀x∈l,Nf x):Nf (gN l):=by
 have hn:=fun x hx=>wb h (y:=x) hx
 have h2:=fun x hx y hy=>xB (l:=l) (x:=x) (y:=y) hx hy
 obtain⟨q1,q2,q3⟩:=Bv (pG _) hn h2
 exact O8 q2 (fun x hx=>hn x (q1 x hx)) (fun x hx y hy=>h2 x (q1 x hx) y (q1 y hy)) q3
theorem Sn {x:Rx}(h:x.kind=5):cP x=true:=by rw[qp,if_neg ace,if_neg ace];exact decide_eq_true (.inr h)
theorem L7 {x:Rx}(h:Nf x)(hk:x.kind≠0∧x.kind≠1∧x.kind≠5):Nf (.mk 5 [] [pD x]):=by
 by_cases q:x.kind=4∧(x.kids.getD 0 default).kind=1
 · obtain ⟨e, h2, hn, hk4, hs, ht, ha⟩ := h.k4 q.1
   have hf:=hn _ (aP (l:=x.kids) (i:=0) ace)
   have ha':=ha _ (aP (l:=x.kids) (i:=0) ace) q.2
   have hd:∀y∈x.kids.drop 1,y.kind≠1:=fun y hy hy1=>by
     have h3:=nA hs hy
     exact h3.1 (eX hs (fun x hx=>⟨hn x hx,(hk4 x hx).1⟩) h3.2 hy1).symm
   by_cases q2:x.kids.length=2
   · rw [v7 q q2]
     have hm:x.kids.getD 1 default∈x.kids:=aP ace
     have hm1:x.kids.getD 1 default∈x.kids.drop 1:=by rw[←xz];exact aP (by rw[aad];omega)
     have h1:=hd _ hm1
     refine .star (hn _ hm) ⟨(hk4 _ hm).1,h1,fun h5=>?_⟩ fun h4=>absurd h4 (hk4 _ hm).2
     have:=ha' _ hm h1
     rw[Sn h5] at this;cases this
   · rw [v8 q q2]
     have es:x.syms=[]:=by rw[e];rfl
     rw[q.1,es]
     refine .star (.alt (by rw[aad];omega) (fun y hy=>hn y (aaE hy)) (fun y hy=>hk4 y (aaE hy)) (List.Pairwise.drop hs)
       (fun y hy z hz=>ht y (aaE hy) z (aaE hz)) fun y hy hy1=>absurd hy1 (hd y hy)) ⟨by show ¬(4:Int)=0;decide,by show ¬(4:Int)=1;decide,by show ¬(4:Int)=5;decide⟩ fun _=>hd
 · rw [qy q]
   refine .star h hk fun h4 y hy hy1=>q ⟨h4,?_⟩
   obtain⟨e,h2,hn,hk4,hs,ht,ha⟩:=h.k4 h4
   rw[eX hs (fun x hx=>⟨hn x hx,(hk4 x hx).1⟩) hy hy1];exact hy1
theorem L8 {x:Rx}(h:Nf x):Nf (lh x):=by
 by_cases h1:x.kind=0∨x.kind=1
 ·rw[vY h1];exact .empty
 ·by_cases h5:x.kind=5
  ·rw[vZ h5];exact h
  ·rw[ov h1 h5];exact L7 h ⟨fun e=>h1 (.inl e),fun e=>h1 (.inr e),h5⟩
theorem Bx {P:Rx→Prop}(h:∀r,(∀x∈r.kids,P x)→P r)(r:Rx):P r:=by
 have:∀n (r:Rx),r.size≤n→P r:=by
  intro n
  induction n with
  | zero=>intro r hr;have:=size_pos r;omega
  | succ n ih=>exact fun r hr=>h r fun x hx=>ih x (by have:=dd hx;omega)
 exact this _ r (Z1 _)
theorem ib {r:Rx}(h:aQ r=true):∀x∈r.kids,aQ x=true:=by
 intro x hx
 rw[fA] at h
 split at h
 ·cases h
 ·split at h
  ·rw[aae,decide_eq_true_eq] at h
   rw[aak h.2] at hx;cases hx
  ·split at h
   ·cases h
   ·rw[hZ,aam] at h;exact h x hx
theorem pJ {r:Rx}(h:aQ r=true):0≤r.kind∧r.kind≤5:=by
 rw[fA] at h
 split at h
 ·cases h
 ·omega
theorem ly {r:Rx}(h:aQ r=true)(h5:r.kind=5):r.syms=[]∧r.kids.length=1:=by
 rw[iW h5,aae,aae,decide_eq_true_eq,decide_eq_true_eq] at h
 exact⟨aak h.1,h.2.1⟩
theorem pK (t:Bool)(r:Rx):aQ r=true→Nf (aJ t r):=by
 refine Bx (P:=fun r=>aQ r=true→Nf (aJ t r)) (fun r ih hv=>?_) r
 have hk:∀x∈r.kids.map (aJ t),Nf x:=fun x hx=>by
   obtain⟨y,hy,rfl⟩:=aao.1 hx
   exact ih y hy (ib hv y hy)
 have hkk:=pJ hv
 by_cases h3:r.kind=3
 · cases t with
   | false=>rw[lG h3];exact kC hk
   | true=>rw[nz h3];exact kC fun x hx=>hk x (List.mem_reverse.1 hx)
 · by_cases h4 : r.kind = 4
   · rw[kP h4];exact Bw hk
   · by_cases h5 : r.kind = 5
     · rw[kQ h5];exact L8 (hk _ (aP (by rw[Z0,(ly hv h5).2];decide)))
     · rw [jV h3 h4 h5]
       by_cases h2:r.kind=2
       · rw [lU h2, aae] at hv
         rw[h2];exact .set hv.2
       · have h01 : r.kind = 0 ∨ r.kind = 1 := ace
         rw[jC h01,aae,decide_eq_true_eq] at hv
         rw[aak hv.1]
         rcases h01 with e|e<;>rw[e]
         · exact .none
         · exact .empty
theorem FJ (x:Rx):Rx.aB (cy x)≤x.size:=by
 unfold cy
 split
 ·have:=size_eq x;omega
 ·split
  ·have:Rx.aB []=0:=rfl
   omega
  ·rw[Rx.aB,Rx.aB];omega
theorem xC:∀ l:List Rx,Rx.aB (ek l)≤Rx.aB l
 | []=>Z1 _
 | x :: l => by
   have:=xC l
   have:=FJ x
   have e:ek (x :: l)=cy x++ek l:=rfl
   rw[e,ef,Rx.aB];omega
theorem eF (k:Int)(s:List Int)(l:List Rx):(Rx.mk k s l).size=1+s.length+Rx.aB l:=by rw[Rx.size]
theorem ug (l:List Rx):(cU l).size≤1+Rx.aB l:=by
 have h:=xC l
 refine xA (fun r=>r.size≤1+Rx.aB l) (by rw[eF];simp only[Z9,Rx.aB];omega) fun _=>?_
 unfold xm
 split
 ·rw[eF];simp only[Z9,Rx.aB];omega
 ·split
  ·have:=gp (aP (l:=ek l) (i:=0) ace);omega
  ·rw[eF];simp only[Z9];omega
theorem kD {l m:List Rx}(h:l.Sublist m):Rx.aB l≤Rx.aB m:=by
 induction h with
 | slnil=>exact Z1 _
 | cons x _ ih=>rw[Rx.aB];omega
 | cons_cons x _ ih=>rw[Rx.aB,Rx.aB];omega
theorem Dq {α:Type} [Inhabited α]{eq:α→α→Bool}{l:List α}:∀i,i≤l.length→(en eq l i).Sublist (l.take i)
 | 0,_=>by rw[en];exact List.nil_sublist _
 | i + 1, h => by
   rw[en,bD h]
   have:=Dq (eq:=eq) (l:=l) i ace
   split
   · exact this.trans (List.sublist_append_left _ _)
   · exact this.append (List.Sublist.refl _)
theorem FK (l:List Rx):Rx.aB (dS l)≤1+Rx.aB l:=by
 have h1:=kD (Dq (eq:=Hn) (l:=jU (j5 (c5 l) (dP l))) _ (Z1 _))
 rw[aa1] at h1
 have h2:Rx.aB (jU (j5 (c5 l) (dP l)))=Rx.aB (j5 (c5 l) (dP l)):=xx (jm _)
 have h3:=xy (c5 l) (dP l)
 have h4:=L4 l
 show Rx.aB (en _ _ _)≤_
 omega
theorem FL (k:List Rx):Rx.aB (j6 k)≤Rx.aB k:=by
 unfold j6
 split
 ·exact kD (List.drop_sublist _ _)
 ·exact Z1 _
theorem zZ (l:List Rx):(gN l).size≤2+Rx.aB l:=by
 have h:=FL (dS l)
 have h1:=FK l
 unfold gN vN
 split
 ·rw[eF];simp only[Z9,Rx.aB];omega
 ·split
  ·have:=gp (aP (l:=j6 (dS l)) (i:=0) ace);omega
  ·rw[eF];simp only[Z9];omega
theorem FM (x:Rx):(pD x).size≤x.size:=by
 unfold pD
 split
 ·split
  ·exact Nat.le_of_lt (dd (aP ace))
  ·rw[eF,size_eq x]
   have:=kD (List.drop_sublist 1 x.kids)
   omega
 ·exact Z1 _
theorem xD (x:Rx):(lh x).size≤1+x.size:=by
 unfold lh
 split
 ·rw[eF];simp only[Z9,Rx.aB];omega
 ·split
  ·omega
  ·have:=FM x
   rw[eF];simp only[Z9,Rx.aB];omega
theorem qA (l:List Rx):Rx.aB l.reverse=Rx.aB l:=xx (List.reverse_perm l)
theorem ox {f:Rx→Rx}:∀{l:List Rx},(∀x∈l,(f x).size≤2*x.size)→Rx.aB (l.map f)≤2*Rx.aB l
 | [],_=>Z1 _
 | x :: l, h => by
   have h1:=ox (l:=l) fun y hy=>h y (aac _ hy)
   have h2:=h x Z7
   rw[aaL,Rx.aB,Rx.aB];omega
theorem lX (t:Bool)(r:Rx):(aJ t r).size≤2*r.size:=by
 refine Bx (P:=fun r=>(aJ t r).size≤2*r.size) (fun r ih=>?_) r
 have hm:=ox ih
 have e:=size_eq r
 by_cases h3:r.kind=3
 · cases t with
   | false=>rw[lG h3];have:=ug (r.kids.map (aJ false));omega
   | true=>rw[nz h3];have:=ug (r.kids.map (aJ true)).reverse;rw[qA] at this;omega
 · by_cases h4 : r.kind = 4
   · rw[kP h4];have:=zZ (r.kids.map (aJ t));omega
   · by_cases h5 : r.kind = 5
     · rw [kQ h5]
       have:=xD ((r.kids.map (aJ t)).getD 0 default)
       by_cases h0:0<r.kids.length
       · have := gp (aP (l := r.kids.map (aJ t)) (i := 0) (by rw [Z0]; exact h0))
         omega
       · rw [aak (l := r.kids) ace] at this ⊢
         have h6:((List.map (aJ t) []).getD 0 default).size=1:=rfl
         omega
     · rw[jV h3 h4 h5,eF];simp only[Rx.aB];omega
theorem vf (t:Bool)(l:List Rx):Rx.aB (l.map (aJ t))≤2*Rx.aB l:=ox fun x _=>lX t x
def Y4 (a:Int)(s:List Int):Nat:=s.findIdx fun x=>decide (a≤x)
theorem Ui {a:Int}{s:List Int}{i:Nat}(hi:i≤s.length)(h1:∀k,k<i→s.getD k default<a)(h2:i<s.length→a≤s.getD i default):i=Y4 a s:=by
 rcases aaq i s.length with h|h
 ·refine((List.findIdx_eq h).2 ⟨?_,fun j hj=>?_⟩).symm
  ·have:=h2 h;rw[dw h] at this;exact decide_eq_true this
  ·have:=h1 j hj;rw[dw ace] at this;exact decide_eq_false ace
 ·have hi':i=s.length:=ace
  subst hi'
  refine(List.findIdx_eq_length.2 fun x hx=>?_).symm
  obtain⟨j,hj,e⟩:=aaR hx
  have:=h1 j hj
  rw[dw hj,e] at this
  exact decide_eq_false ace
theorem Sp {a:Int}{s:List Int}{i:Nat}(hi:i<s.length)(h:s.getD i default=a):a∈s:=by rw[←h,dw hi];exact aa4 hi
theorem Uj {a:Int}{s:List Int}{i:Nat}(hs:pF E6 s)(h1:∀k,k<i→s.getD k default<a)(h2:i<s.length→a≤s.getD i default)(h:i<s.length→s.getD i default≠a):¬a∈s:=by
 intro hm
 obtain⟨j,hj,e⟩:=aaR hm
 rw[←dw hj] at e
 rcases Nat.lt_trichotomy j i with q|q|q
 ·have:=h1 j q;omega
 ·subst q;exact h hj e
 ·have h3:=jE hs q hj
  have h4:=of_decide_eq_true h3.1
  have:=h2 ace
  have:=h3.2
  omega
mutual
def dR (a:Int):Rx→Rx
 | .mk k s l=>if k=2 then(if a∈s then eE else dG) else if k=4 then gN (TP a l) else if k=3 then gN (uh a l) else if k=5 then cU [(TP a l).getD 0 default,.mk k s l] else dG
def TP (a:Int):List Rx→List Rx
 | []=>[]
 | x :: l=>dR a x :: TP a l
def uh (a:Int):List Rx→List Rx
 | []=>[]
 | x :: l=>cU [dR a x,cU l] :: (if cP x=true then uh a l else[])
end
theorem Ht (a:Int):∀l:List Rx,TP a l=l.map (dR a)
 | []=>by rw[TP];rfl
 | x :: l=>by rw[TP,Ht a l];rfl
theorem xE (a:Int)(r:Rx):dR a r=if r.kind=2 then(if a∈r.syms then eE else dG) else if r.kind=4 then gN (r.kids.map (dR a)) else if r.kind=3 then gN (uh a r.kids) else
  if r.kind=5 then cU [(r.kids.map (dR a)).getD 0 default,r] else dG:=by
 cases r with|mk k s l=>rw[dR,Ht];rfl
theorem kT:gN []=dG:=by
 rfl
def dL (a:Int)(r:Rx):List Rx:=if r.kind=4 then r.kids.map (dR a) else if r.kind=3 then uh a r.kids else[]
theorem L9 {a:Int}{r:Rx}(h:r.kind=4):dL a r=r.kids.map (dR a):=if_pos h
theorem Jb {a:Int}{r:Rx}(h:r.kind=3):dL a r=uh a r.kids:=by unfold dL;rw[if_neg ace,if_pos h]
theorem By {a:Int}{r:Rx}(h:r.kind≠4)(h3:r.kind≠3):dL a r=[]:=by unfold dL;rw[if_neg h,if_neg h3]
theorem Xa {a:Int}{r:Rx}(h:r.kind=2)(hm:a∈r.syms):dR a r=eE:=by rw[xE,if_pos h,if_pos hm]
theorem Xb {a:Int}{r:Rx}(h:r.kind=5):dR a r=cU [(r.kids.map (dR a)).getD 0 default,r]:=by rw[xE,if_neg ace,if_neg ace,if_neg ace,if_pos h]
theorem Hu {a:Int}{r:Rx}(h:r.kind=5)(h0:0<r.kids.length):dR a r=cU [dR a (r.kids.getD 0 default),r]:=by rw[Xb h,getD_map h0]
theorem ui {a:Int}{r:Rx}(h5:r.kind≠5)(h2:r.kind=2→¬a∈r.syms):dR a r=gN (dL a r):=by
 rw[xE]
 by_cases h:r.kind=2
 ·rw[if_pos h,if_neg (h2 h),By ace ace,kT]
 ·rw[if_neg h]
  by_cases h4:r.kind=4
  ·rw[if_pos h4,L9 h4]
  ·rw[if_neg h4]
   by_cases h3:r.kind=3
   ·rw[if_pos h3,Jb h3]
   ·rw[if_neg h3,if_neg h5,By h4 h3,kT]
def dQ (a:Int)(l:List Rx)(i:Nat):Rx:=cU [dR a (l.getD i default),cU (l.drop (i+1))]
theorem Dr {a:Int}{l:List Rx}{i:Nat}(h:i<l.length):uh a (l.drop i)=dQ a l i :: (if cP (l.getD i default)=true then uh a (l.drop (i+1)) else[]):=by
 rw[drop_cons h,uh];rfl
theorem xF {a:Int}{l:List Rx}:∀i,i≤l.length→(∀j,j<i→cP (l.getD j default)=true)→uh a l=(List.range i).map (dQ a l)++uh a (l.drop i)
 | 0,_,_=>by simp
 | i + 1, hi, h => by
   rw[xF i ace fun j hj=>h j ace,Dr ace,if_pos (h i ace),aaP,Z8,aaI];rfl
theorem O9 {a:Int}{l:List Rx}{i:Nat}(hi:i=l.length)(h:∀j,j<i→cP (l.getD j default)=true):uh a l=(List.range i).map (dQ a l):=by
 rw[xF i ace h,hi,List.drop_length,uh,aav]
theorem Ma {a:Int}{l:List Rx}{i:Nat}(hi:i<l.length)(h:∀j,j<i→cP (l.getD j default)=true)(hn:cP (l.getD i default)=false):uh a l=(List.range (i+1)).map (dQ a l):=by
 rw[xF i ace h,Dr hi,if_neg (by rw[hn];decide),aaP,Z8];rfl
mutual
def Y5:Rx→Nat
 | .mk k s l=>if k=4 then 2+Sq l else if k=3 then 2+Uk l else if k=5 then 2+Sq l+(Rx.mk k s l).size else 2
def Sq:List Rx→Nat
 | []=>0
 | x :: l=>Y5 x+Sq l
def Uk:List Rx→Nat
 | []=>0
 | x :: l=>2+Y5 x+Rx.aB l+(if cP x=true then Uk l else 0)
end
theorem Sr {i j:Nat}(h:i+j<4611686018427387904):IntKind.i64.wrap ((IntKind.u64.wrap ((i:Int)+j)).fdiv (2 ^ (min (1:Int).toNat IntKind.u64.bits)))=(((i+j) / 2:Nat):Int):=by
 have h1:IntKind.u64.wrap ((i:Int)+j)=(i:Int)+j:=by simp[IntKind.wrap,IntKind.signed,IntKind.bits];omega
 have h2:∀n:Int,0≤n→n<4611686018427387904→IntKind.i64.wrap n=n:=fun n h0 h1=>by
  simp[IntKind.wrap,IntKind.signed,IntKind.bits];omega
 rw[h1,show(min (1:Int).toNat IntKind.u64.bits)=1 from rfl,Int.fdiv_eq_ediv_of_nonneg _ acg,h2 _ ace ace]
 omega
theorem nC {x:Rx}(h:Nf x):aQ x=true:=by
 induction h with
 | none=>rw[jC (.inl rfl)];rfl
 | empty=>rw[jC (.inr rfl)];rfl
 | set h=>rw[lU rfl,show jS (Rx.syms (.mk 2 _ []))=true from h];rfl
 | seq h1 h2 h3 ih =>
   rw[lE (.inl rfl)]
   show(true&&!(List.any _ _))=true
   rw[aaZ,aaJ,abe]
   exact fun x hx=>by rw[ih x hx];decide
 | alt h1 h2 h3 h4 h5 h6 ih =>
   rw[lE (.inr rfl)]
   show(true&&!(List.any _ _))=true
   rw[aaZ,aaJ,abe]
   exact fun x hx=>by rw[ih x hx];decide
 | star h1 h2 h3 ih =>
   rw[iW rfl]
   show(true&&(true&&aQ _))=true
   rw[aaZ,aaZ];exact ih
theorem sZ {a:Int}{y:Rx}:∀{l:List Rx},y∈uh a l→∃i,i<l.length∧y=dQ a l i
 | [],h=>by rw[uh] at h;cases h
 | x :: l, h => by
   rw[uh] at h
   rcases aah.1 h with rfl|h
   · exact⟨0,by simp,rfl⟩
   · split at h
     · obtain ⟨i, hi, e⟩ := sZ h
       exact⟨i+1,by simpa using hi,by rw[e];rfl⟩
     · cases h
theorem re (a:Int){x:Rx}(h:Nf x):Nf (dR a x):=by
 have hseq:∀l:List Rx,(∀x∈l,Nf x)→(∀x∈l,Nf (dR a x))→∀y∈uh a l,Nf y:=fun l h1 h2 y hy=>by
   obtain⟨i,hi,rfl⟩:=sZ hy
   refine kC fun z hz=>?_
   rcases aah.1 hz with rfl|hz
   · exact h2 _ (aP hi)
   · rw[aag.1 hz];exact kC fun u hu=>h1 u (aaE hu)
 have hmap:∀l:List Rx,(∀x∈l,Nf (dR a x))→∀y∈l.map (dR a),Nf y:=fun l h2 y hy=>by
   obtain⟨z,hz,rfl⟩:=aao.1 hy;exact h2 z hz
 induction h with
 | none=>rw[ui acg (fun h=>by cases h),By acg acg,kT];exact .none
 | empty=>rw[ui acg (fun h=>by cases h),By acg acg,kT];exact .none
 | set h =>
   rw[xE,if_pos (show(Rx.mk 2 _ []).kind=2 from rfl)]
   split
   · exact .empty
   · exact .none
 | seq h1 h2 h3 ih =>
   rw[ui (by simp[Rx.kind]) (by simp[Rx.kind]),Jb rfl]
   exact Bw (hseq _ h2 ih)
 | alt h1 h2 h3 h4 h5 h6 ih =>
   rw[ui (by simp[Rx.kind]) (by simp[Rx.kind]),L9 rfl]
   exact Bw (hmap _ ih)
 | @star y h1 h2 h3 ih =>
   rw[Hu rfl (by show 0<1;decide)]
   refine kC fun z hz=>?_
   rcases aah.1 hz with rfl|hz
   · exact ih
   · rw[aag.1 hz];exact .star h1 h2 h3
theorem nD {l:List Rx}(h:∀x∈l,x.kind≠1∧x.kind≠3):ek l=l:=by
 induction l with
 | nil=>rfl
 | cons x l ih =>
   have e:ek (x :: l)=cy x++ek l:=rfl
   rw[e,ih fun y hy=>h y (aac _ hy),eh (h x Z7).2 (h x Z7).1];rfl
theorem Jc {l:List Rx}(h2:2≤l.length)(h:∀x∈l,x.kind≠0∧x.kind≠1∧x.kind≠3):cU l=.mk 3 [] l:=by
 rw[nu (fun j hj=>(h _ (aP hj)).1),nD (fun x hx=>(h x hx).2),rO ace ace]
theorem nE {l:List Rx}(h:∀x∈l,x.kind≠4):aW l=l:=by
 induction l with
 | nil=>rfl
 | cons x l ih =>
   have e:aW (x :: l)=oq x++aW l:=rfl
   rw[e,ih fun y hy=>h y (aac _ hy),jo (h x Z7)];rfl
theorem z6 {l:List Rx}(hn:∀x∈l,Nf x)(hk:∀x∈l,x.kind≠0∧x.kind≠4)(hs:pF qO l)(h2:∀x∈l,∀y∈l,x.kind=2→y.kind=2→x=y):dS l=l:=by
 rw[jX]
 refine qz xu (pG _) hs fun x=>?_
 rw[jW,gq,ia,nE fun x hx=>(hk x hx).2]
 have hS:∀y∈l,y.kind=2→uf (c5 l)=y.syms:=fun y hy hy2=>by
   have h3:=((hn y hy).k2 hy2).2
   rw[←I8 (jF.1 h3).2.1]
   refine L5 fun z=>?_
   rw[kS,nE fun x hx=>(hk x hx).2]
   exact⟨fun⟨q,hq,hq2,hz⟩=>by rw[h2 y hy q hq hy2 hq2];exact hz,fun hz=>⟨y,hy,hy2,hz⟩⟩
 constructor
 · rintro (h | ⟨h0, rfl⟩)
   · exact h.1
   · obtain ⟨z, hz⟩ := abd.1 h0
     rw[kS,nE fun x hx=>(hk x hx).2] at hz
     obtain⟨y,hy,hy2,_⟩:=hz
     rw[hS y hy hy2,←((hn y hy).k2 hy2).1];exact hy
 · intro hx
   by_cases hx2:x.kind=2
   · refine .inr ⟨?_, ?_⟩
     · have h3 := (jF.1 ((hn x hx).k2 hx2).2).1
       obtain⟨z,hz⟩:=abd.1 h3
       exact abd.2 ⟨z,kS.2 ⟨x,by rw[nE fun x hx=>(hk x hx).2];exact hx,hx2,hz⟩⟩
     · rw[hS x hx hx2];exact((hn x hx).k2 hx2).1
   · exact .inl ⟨hx,(hk x hx).1,hx2⟩
theorem Jd {l:List Rx}(hs:pF qO l)(h:∀x∈l,x.kind=1→∀y∈l,y.kind≠1→cP y=false)(hn:∀x∈l,Nf x):j6 l=l:=by
 refine lW fun⟨h1,h2,h3⟩=>?_
 obtain⟨y,hy,ha⟩:=aay.1 h3
 have hd:=nA hs hy
 have h0:l.getD 0 default∈l:=aP ace
 refine absurd ha ?_
 rw[h _ h0 h2 y hd.2 fun q=>hd.1 ?_]
 ·decide
 ·rw[(hn y hd.2).k1 q,(hn _ h0).k1 h2]
theorem z7 {l:List Rx}(hl:2≤l.length)(hn:∀x∈l,Nf x)(hk:∀x∈l,x.kind≠0∧x.kind≠4)(hs:pF qO l)(h2:∀x∈l,∀y∈l,x.kind=2→y.kind=2→x=y)
  (h:∀x∈l,x.kind=1→∀y∈l,y.kind≠1→cP y=false):gN l=.mk 4 [] l:=by
 unfold gN;rw[z6 hn hk hs h2,Jd hs h hn,xv ace ace]
theorem FN {x:Rx}(h:x.kind≠0∧x.kind≠1∧x.kind≠5)(h4:x.kind=4→∀y∈x.kids,y.kind≠1)(hn:Nf x):lh x=.mk 5 [] [x]:=by
 rw[ov (fun e=>e.elim h.1 h.2.1) h.2.2,qy]
 exact fun e=>h4 e.1 _ (aP (by have:=(hn.k4 e.1).2.1;omega)) e.2
theorem xG {α:Type}{f:α→α}{l:List α}(h:∀x∈l,f x=x):l.map f=l:=by
 rw[ab3 h];exact List.map_id _
theorem s4 {x:Rx}(h:Nf x):aJ false x=x:=by
 induction h with
 | none=>rw[jV acg acg acg];rfl
 | empty=>rw[jV acg acg acg];rfl
 | set h=>rw[jV (by simp[Rx.kind]) (by simp[Rx.kind]) (by simp[Rx.kind])];rfl
 | @seq l h1 h2 h3 ih =>
   rw[lG rfl]
   show cU (l.map (aJ false))=_
   rw[xG ih];exact Jc h1 h3
 | @alt l h1 h2 h3 h4 h5 h6 ih =>
   rw[kP rfl]
   show gN (l.map (aJ false))=_
   rw[xG ih];exact z7 h1 h2 h3 h4 h5 h6
 | @star x h1 h2 h3 ih =>
   rw[kQ rfl]
   show lh (aJ false x)=_
   rw[ih];exact FN h2 h3 h1
def dy (r:Rx):Rx:=if aQ r=true then aJ false r else dG
def eo (r:Rx):Rx:=if aQ r=true then aJ true r else dG
theorem qB (r:Rx):Nf (dy r):=by
 unfold dy;split
 ·next h=>exact pK false r h
 ·exact .none
theorem Pa (r:Rx):Nf (eo r):=by
 unfold eo;split
 ·next h=>exact pK true r h
 ·exact .none
theorem Pb {x:Rx}(h:Nf x):dy x=x:=by unfold dy;rw[if_pos (nC h),s4 h]
def Je (r:Rx)(w:List Int)(k:Nat):Rx:=(w.take k).foldl (fun x a=>dR a x) (dy r)
theorem Mb {r:Rx}{w:List Int}{k:Nat}(h:k<w.length):Je r w (k+1)=dR (w.getD k default) (Je r w k):=by
 unfold Je;rw[bD h,abf];rfl
theorem Ss (r:Rx)(w:List Int)(k:Nat):Nf (Je r w k):=by
 unfold Je
 generalize w.take k=v
 have:∀(v:List Int)(x:Rx),Nf x→Nf (v.foldl (fun x a=>dR a x) x):=by
  intro v
  induction v with
  | nil=>exact fun x h=>h
  | cons a v ih=>exact fun x h=>ih _ (re a h)
 exact this v _ (qB r)
def rP (r:Rx)(w:List Int):Bool:=cP (Je r w w.length)
theorem z8 (r:Rx):(dy r).size≤2*r.size:=by
 unfold dy;split
 ·exact lX false r
 ·have:=size_pos r;rw[eF];simp only[Z9,Rx.aB];omega
end Go.Wb
