/-
  Part of the proof.
-/
import Derived.Test.YtlapahnodhmcpaaGreatJ0
import Derived.Test.YtlapahnodhmcpaaGreatJ16
import Derived.Test.YtlapahnodhmcpaaGreatJ38
import Derived.Test.YtlapahnodhmcpaaGreatJ23
import Derived.Test.YtlapahnodhmcpaaGreatJ15
import Derived.Test.YtlapahnodhmcpaaGreatJ31
import Derived.Test.YtlapahnodhmcpaaGreatJ39
set_option linter.unusedVariables false
set_option linter.unusedSectionVars false
set_option linter.unusedSimpArgs false
set_option maxRecDepth 100000
set_option maxHeartbeats 40000000
namespace Go.Wf
open Go.Am Go.Wb Go.Wc
def Lb (g:aC)(i:Int):List UInt8:=(g.classes.getD i.toNat default).name
def Lc (A:Nat)(g:aC)(m:List Int)(i:Nat):cy:=⟨lC A ((m.drop (2+i)).take 3),Lb g (kN m (1+i) g.classes.length)⟩
def z8 (A:Nat)(g:aC)(L:List cy)(m:List Int):List cy :=
 if kN m 0 4=0 then L++[⟨lC A m,Fq⟩] else
 if kN m 0 4=1 then L++List.replicate ((63+kN m 1 4).toNat-L.length) ⟨[],Lb g 0⟩ else
 if kN m 0 4=2 then L++[⟨List.replicate (23+kN m 1 4).toNat 0,Lb g 0⟩] else L++(List.range 3).map (Lc A g m)
theorem Ld (A:Nat)(g:aC)(m:List Int)(i:Nat):(List.range (i+1)).map (Lc A g m)=(List.range i).map (Lc A g m)++[Lc A g m i]:=by rw[aa8,aas];rfl
variable{k:Nat}
theorem FU {α:Type}{L:List α}{k:Nat}{z:α}:(L++List.replicate k z).length=L.length+k:=by rw[aar,abo]
theorem Le {α:Type}{L:List α}{k:Nat}{z:α}:L++List.replicate (k+1) z=(L++List.replicate k z)++[z]:=by rw[List.replicate_succ',←aaY]
variable{g g:aC}{L:List cy}
theorem Us {A:Nat}{L:List cy}(m:List Int)(hL:L.length≤5)(hw:∀x∈L,x.lemma_.length≤12):(z8 A g L m).length≤1048576∧∀x∈z8 A g L m,x.lemma_.length≤1048576:=by
 have h1:=js (l:=m) (i:=1) (most:=4) acM;have hwl:∀l:List Int,(lC A l).length≤1048576:=fun l=>by unfold lC;rw[aai,aau];omega
 have hw':∀x∈L,x.lemma_.length≤1048576:=fun x hx=>aaO (hw x hx) acM
 unfold z8;split
 · refine ⟨by rw [aar]; show _ + 1 ≤ _; omega, fun x hx => ?_⟩
   rcases aaU.1 hx with hx|hx
   · exact hw' x hx
   · rw[aay] at hx;subst hx;exact hwl m
 · split
   · refine ⟨by rw [FU]; omega, fun x hx => ?_⟩
     rcases aaU.1 hx with hx|hx
     · exact hw' x hx
     · rw[aci hx];exact aan _
   · split
     · refine ⟨by rw [aar]; show _ + 1 ≤ _; omega, fun x hx => ?_⟩
       rcases aaU.1 hx with hx|hx
       · exact hw' x hx
       · rw[aay] at hx;subst hx;show(List.replicate _ _).length≤_;rw[abo];omega
     · refine ⟨by rw [aar, aai, aaA]; omega, fun x hx => ?_⟩
       rcases aaU.1 hx with hx|hx
       · exact hw' x hx
       · obtain⟨i,_,rfl⟩:=aaG.1 hx;exact hwl _
def lx (A:Nat)(g:aC)(L:List cy)(m:List Int):List (List cy):=[L,z8 A g L m,[]]
def FV (l:List cy):AV:=.sl (l.map cS)
theorem Ut {A:Nat}{L:List cy}(m:List Int)(h:qG g L):∀x∈lx A g L m,x.length≤1048576∧∀y∈x,y.lemma_.length≤1048576:=fun x hx=>by
 simp only[lx,aaC,aca,or_false] at hx;rcases hx with rfl|rfl|rfl
 ·exact⟨h.n',h.w'⟩
 ·exact Us m h.n h.w
 ·exact⟨aan _,fun y hy=>by cases hy⟩
theorem Lf (n:Nat):ints (List.replicate n 0)=.sl (List.replicate n (.sc (.int .i64 0))):=by show AV.sl ((List.replicate n (0:Int)).map int)=_;rw[List.map_replicate]
theorem C7 {l:List cy}(h:eE g l=0)(z:Int):Q2 (rE g l) z=fy (aH g l) z:=by rw[C2 h];rfl
theorem Xq {l:List cy}(h:eE g l=0):l.length≤64:=by
 unfold eE at h;split at h
 ·cases h
 ·omega
end Go.Wf
namespace Go.Am
section
variable {P:Program} {w0:Fr}{M0:Nat→Prop}{o:Oper}{ρ:Operand→Option SV}{ob:List (Nat×Ob)}{x y:Operand}{T T':TypeId}{c:fW}
open Go.Wf in
theorem qH {g:aC}{l:List cy}(ho:o.op=.binOp .eql T x y T')(hT:P.underlying T=some (.pointer (P.pointee T)))(hx:ρ x=some (.v c (C1 g l)))(hy:aZ ρ y=some (.pointer none)):Pure P w0 M0 o ρ ob (vvw (bool (!decide (eE g l=0)))):=by
 by_cases h:eE g l=0
 ·rw[qB h] at hx;have:=kJ (P:=P) (w0:=w0) (M0:=M0) (ob:=ob) ho hT hx hy;rwa [decide_eq_true h]
 ·rw[w7 rfl h] at hx;have:=xM (P:=P) (w0:=w0) (M0:=M0) (ob:=ob) ho hT (by unfold aZ;rw[hx];rfl) hy;rwa [decide_eq_false h]
end
end Go.Am
namespace Go.Proofs.YtlapahnodhmcpaaGreat
open Go.Am Go.Wb Go.Wc Go.Wf Go.We
abbrev ZO:=dF 8 Tryz.func11
variable{m:List Int}
theorem Pm {a:List cK}{g:aC}{L:List cy}(ha:0<a.length∧a.length≤1000)(hcl:0<g.classes.length∧g.classes.length≤3)(hL:L.length≤5)(hm:fx m)(hml:m.length≤9223372036854775807) :
  aU Tryz.prog 11 [cV g,af a,.sl (L.map cS),ints m] (.p (.sl ((z8 a.length g L m).map cS))):=by
 have hat1:=js (l:=m) (i:=1) (most:=4) acM;refine cN ZO fun w0 M0 aa=>?_
 refine c4 [2,1005,6] [1,3,4,11,12] [9] ?_;refine oS J (step_append J J J J Tryz.underlying30 EJ J J aa (eW J (fun _=>rfl)) (by first|(simp only[ll];omega)|omega) (by first|(simp only[ll];omega)|omega)) J ?_;refine wA [7] [1,3,4,9,14] [9] ?_;refine oC J J J J (eI hm acM) ?_;refine wS [3009] [1,3,4,9,15,43] [9] ?_ ?_<;>intro h1;refine wA [5] [45,46,47] [9] ?_;refine oC J J J J (gn hm hml ha) ?_;refine wZ [1,5000] ?_;refine oS J (step_append J J J J Tryz.underlying30 EJ J J aa (cI J (bW (by rfl))) (by simp only[aat,abz,aai,aar,abo,aaA,aaZ];omega) (by simp only[aat,abz,aai,aar,abo,aaA,aaZ];omega)) J ?_;refine wA [5] [9] [9] ?_;refine aI 85 [(9,_)] [] aa J ⟨.inr ⟨_,_,rfl,rfl,rfl⟩,trivial⟩ trivial ?_;refine xP [8006] ?_;rotate_left;refine wS [3007] [1,3,4,9,15,52] [9] ?_ ?_<;>intro h2;refine wA [2] [3,4,9] [9] ?_;refine lp (fun zm zs=>∃k:Nat,zm=70-k∧(L.length+k≤(63+kN m 1 4).toNat)∧zs=⟨85,[(3,vvw (ints m)),(4,vvw (.pc (qp g) 0)),(9,.own 9)],[(9,.arr 72 ((L++List.replicate k (⟨[],Lb g 0⟩:cy)).map cS))]⟩) ?_ ?_;exact⟨_,0,rfl,acK,by rw[List.replicate_zero,aaP];rfl⟩;rintro zm zs ⟨k,rfl,aY,rfl⟩;have hrl:=FU (L:=L) (k:=k) (z:=(⟨[],Lb g 0⟩:cy));refine wA [4,1] [3,4,9,55,56] [9] ?_;refine oC J J J J (eI hm acM) ?_;refine wS [0,3003] [3,4,9,59] [9] ?_ ?_<;>intro h3;refine wA [8] [3,4,60,62] [9] ?_;refine oP J (gF (f:=bL) (l:=g.classes) (i:=0) (z:=g.classes.getD 0 default) J J Tryz.underlying26 Cz J J acK (fun _=>rfl)) ?_;refine wA [2] [3,4,60,65] [9] ?_;refine oP J (au (aT J Yx TS J J J) J) ?_;refine wA [0,0] [3,4,60,67] [9] ?_;refine oS J (step_append J J J J Tryz.underlying30 EJ J J aa (cI J (bW (by rfl))) (by simp only[aat,abz,aai,aar,abo,aaA,aaZ];omega) (by simp only[aat,abz,aai,aar,abo,aaA,aaZ];omega)) J ?_;refine wA [9003] [3,4,9] [9] ?_;exact⟨_,⟨k+1,rfl,acK,by rw[Le,aas (l₁:=L++List.replicate k (⟨[],Lb g 0⟩:cy))];rfl⟩,acK⟩;refine wA [8] [9] [9] ?_;refine aI 85 [(9,_)] [] aa J ⟨.inr ⟨_,_,rfl,rfl,rfl⟩,trivial⟩ trivial ?_;refine xP [8006] ?_;rotate_left;refine wS [3007] [1,3,4,9,69] [9] ?_ ?_<;>intro h4;refine wA [2001,3] [3,71,73] [9] ?_;refine oD J J J (gF (f:=bL) (l:=g.classes) (i:=0) (z:=g.classes.getD 0 default) J J Tryz.underlying26 Cz J J acK (fun _=>rfl)) ?_;refine wA [3] [71,76,77] [9] ?_;refine oE J J J J J J (eI hm acM) ?_;refine wZ [6000,5000] ?_;refine oD J J J (Kk J Tryz.underlying22 Uz XB J J J (⟨acK,acK,acK⟩) aa) ?_;refine wZ [6001,5000] ?_;refine cT acL ?_;refine dE J (step_append J J J J Tryz.underlying30 EJ J J aa (cI J (bW (by rfl))) (by simp only[aat,abz,aai,aar,abo,aaA,aaZ];omega) (by simp only[aat,abz,aai,aar,abo,aaA,aaZ];omega)) ?_;refine wB J J J (hU J J) ?_;refine fe ?_;refine iS [3] [9] [9] ?_;refine aI 85 [(9,_)] [] aa J ⟨.inr ⟨_,_,rfl,rfl,rfl⟩,trivial⟩ trivial ?_;refine xP [8006] ?_;rotate_left;refine wA [7] [1,3,4,9,10] [9] ?_;refine lp (fun zm zs=>∃i:Nat,zm=3-i∧(i≤3)∧zs=⟨85,[(1,vvw (af a)),(3,vvw (ints m)),(4,vvw (.pc (qp g) 0)),(9,.own 9),(10,vvw (int i))],[(9,.arr 72 ((L++(List.range i).map (Lc a.length g m)).map cS))]⟩) ?_ ?_;exact⟨_,0,rfl,aan _,by rw[List.range_zero,abu,aaP];rfl⟩;rintro zm zs ⟨i,rfl,fu,rfl⟩;refine wS [3007] [1,3,4,9,10,17] [9] ?_ ?_<;>intro h5;refine wA [5] [1,3,4,9,10] [9] ?_;have hat:=js (l:=m) (i:=1+(i:Int)) (most:=(g.classes.length:Int)) acK;refine wZ [2000,6005,6002,5000] ?_;refine oE J J J J J J (eI (i:=1+(i:Int)) hm acK) ?_;refine oD J J J (gF (f:=bL) (l:=g.classes) (i:=(kN m (1+(i:Int)) g.classes.length).toNat) (z:=g.classes.getD (kN m (1+(i:Int)) g.classes.length).toNat default) J J Tryz.underlying26 Cz J J acK (fun _=>rfl)) ?_;refine wA [5] [1,3,4,10,20,32,33,34,35] [9] ?_;refine oD J J J (du (a':=((2+i:Nat):Int)) (dP J J J acK) acK) ?_;refine oF J J J J J J J (jK (n:=2+i) hml acK) ?_;refine oE J J J J J J (oi (l:=m.drop (2+i)) (n:=3) (by rw[aaw];omega) acM) ?_;refine oE J J J J J J (gn (l:=(m.drop (2+i)).take 3) (fx.take (fx.drop hm _) _) (by rw[aau];omega) ha) ?_;refine wZ [6001,5000] ?_;refine cT acL ?_;refine dE J (step_append J J J J Tryz.underlying30 EJ J J aa (cI J (bW (by rfl))) (by simp only[aat,abz,aai,aar,abo,aaA,aaZ];omega) (by simp only[aat,abz,aai,aar,abo,aaA,aaZ];omega)) ?_;refine wB J J J (hU J J) ?_;refine fe ?_;refine iS [4,9002] [1,3,4,9,10] [9] ?_;exact⟨_,⟨i+1,rfl,acK,by rw[Ld,←aaY,aas (l₁:=L++(List.range i).map (Lc a.length g m))];rfl⟩,acK⟩;refine wA [8] [9] [9] ?_;refine aI 85 [(9,_)] [] aa J ⟨.inr ⟨_,_,rfl,rfl,rfl⟩,trivial⟩ trivial ?_;refine xP [8006] ?_;rotate_left
 all_goals
  first
   | (unfold z8;rw[if_pos acN,aas];rfl)
   | (unfold z8;rw[if_neg acN,if_pos acN,show(63+kN m 1 4).toNat-L.length=k by omega];done)
   | (unfold z8;rw[if_neg acN,if_neg acN,if_pos acN,aas];show _=RV.p (.sl (_++[.agg [ints (List.replicate _ 0),_]]));rw[Lf];rfl)
   | (unfold z8;rw[if_neg acN,if_neg acN,if_neg acN,show i=3 by omega];done)
abbrev fn3:=dF 6 Tryz.func3
theorem Rw {l:List Int}{i:Int}(hl:fx l)(hll:l.length≤9223372036854775807)(hm:fx m)(hml:m.length≤9223372036854775807)(hi:Xy i):ak Tryz.prog 3 [ints l,ints m,int i] (.p (bool true)):=by
 have hlex:=po hll hl;have hok:=Pf l;have haa:=pn l;have hcl:=vn (iR l).length (l.drop 20);rw[show wa (iR l).length (l.drop 20)=gG (iR l).length l from rfl] at hcl;generalize iR l=a at hlex hok haa hcl;generalize gG a.length l=g at hlex hok hcl;generalize fp a.length l 12=L at hlex hok;have hlb:=Ut (A:=a.length) m hok;have hgs:=hok.gs;have hl3:(lx a.length g L m).length=3:=rfl;refine aU.ZN (cN fn3 fun w0 M0 aa=>?_);refine c4 [8] [1,2,21] [] ?_;refine oN J J J J J (hlex) ?_;refine wA [11] [1,2,7,8,9] [8] ?_;refine aI 112 [(1,_),(2,_),(7,_),(8,_),(9,_)] [] aa J ⟨.inl J,.inl J,.inl J,.inr ⟨_,_,rfl,rfl,rfl⟩,.inl J,trivial⟩ trivial ?_;refine gz [2] [1,2,7,8,9,26] [] ?_;refine oP J (au (aG J lO jN J (aah J)) J) ?_;refine wA [3] [2,8,26,27,28,29,30] [] ?_;refine oN J J J J J (Pm acK hcl hok.n hm hml) ?_;refine wA [0,10] [2,8,10,11] [] ?_;refine lp (fun zm zs=>∃k:Nat,zm=3-k∧(k≤3)∧zs=⟨112,[(2,vvw (int i)),(8,vvw (kn g)),(10,vvw (.sl ((lx a.length g L m).map FV))),(11,vvw (int k))],[]⟩) ?_ ?_;exact⟨_,0,rfl,aan _,rfl⟩;rintro zm zs ⟨k,rfl,aY,rfl⟩;have hk3:=aY;refine wS [3007] [2,8,10,11,34] [] ?_ ?_<;>intro h1;refine wA [6] [2,8,10,11] [] ?_;have hk:=hlb _ (aM (l:=lx a.length g L m) (i:=k) (by show k<3;omega));refine wZ [2000,5000] ?_;refine oD J J J (au (aG J lO jN J (aah J)) J) ?_;refine wA [2] [2,8,10,11,38,39,40] [] ?_;refine oD J J J (dS J Tryz.underlying34 Vj J J (by show _∧_<(([L,z8 a.length g L m,[]]:List (List cy)).length:Int);simp only[aam,aat];omega) (fun _=>rfl)) ?_;refine wA [1] [2,8,10,11,38,42] [] ?_;refine oF J J J J J J J (tX (l:=((lx a.length g L m).getD k default)) hgs hk.1 hk.2) ?_;refine wA [10] [2,8,10,11,12,13,14] [] ?_;refine dC [10,11] [[],[(15,.box 41 [vvv,vvv,vvv,vvv,vvv,vvv])],[(15,.box 41 [vvw (.sl ((rE g ((lx a.length g L m).getD k default)).g.sets.map jb)),vvw (.sl ((rE g ((lx a.length g L m).getD k default)).g.rules.map bn)),vvw (.sl ((rE g ((lx a.length g L m).getD k default)).g.classes.map bL)),vvw (strs (rE g ((lx a.length g L m).getD k default)).g.order),vvw (.sl ((rE g ((lx a.length g L m).getD k default)).l.map cS)),vvw (.sl ((rE g ((lx a.length g L m).getD k default)).f.map bU))])]] 14 [] [(48,vvw (cV g)),(49,vvw (.sl ((lx a.length g L m).map FV))),(50,vvw (int k)),(51,vvw (.pc (AV.cells (FV ((lx a.length g L m).getD k default))) 0)),(52,vvw (.sl (((lx a.length g L m).getD k default).map cS))),(53,vvw (.tup [Hp (rE g ((lx a.length g L m).getD k default)),int (qA g ((lx a.length g L m).getD k default)),int (eE g ((lx a.length g L m).getD k default))])),(47,vvw (.tup [Hp (rE g ((lx a.length g L m).getD k default)),int (qA g ((lx a.length g L m).getD k default)),int (eE g ((lx a.length g L m).getD k default))])),(54,vvw (Hp (rE g ((lx a.length g L m).getD k default)))),(55,vvw (int (qA g ((lx a.length g L m).getD k default)))),(56,vvw (int (eE g ((lx a.length g L m).getD k default)))),(15,.pbox 15 0),(16,vvw (int (qA g ((lx a.length g L m).getD k default)))),(17,vvw (int (eE g ((lx a.length g L m).getD k default)))),(2,vvw (int i)),(8,vvw (kn g)),(10,vvw (.sl ((lx a.length g L m).map FV))),(11,vvw (int k)),(12,vvw (C1 g ((lx a.length g L m).getD k default))),(13,vvw (int (qA g ((lx a.length g L m).getD k default)))),(14,vvw (int (eE g ((lx a.length g L m).getD k default))))] (ai (fun _=>(au (aG J lO jN J (aah J)) J)) (ai bS (ai bS (ai bS (ai bS (ai (fun _=>(bC J J J J (KV (l:=((lx a.length g L m).getD k default)) hgs hk.1 hk.2) aa)) (ai bS (ai bS (ai bS (ai bS (ai bS (ai bS trivial)))))))))))) (ai (fun X e7 dH c6=>gh (t:=15) J J J J e7 TR J J (fun t' z h hne=>eT (by rfl) (dH t' z h) hne) J aa) (ai (fun X e7 dH c6=>b8 J (b7 (u:=15) (v:=54) (id:=15) J J e7 QA ((c6 15 acM).trans J) J ((c6 54 acM).trans J) J acM J J (fun t' z h=>cD (by rfl) (dH t' z h)) J aa)) (trivial))) ?_;refine bM (n:=0) acL ?_;refine bf acL ?_;refine iS [3] [2,8,10,11,12,13,14,15,16,17] [15] ?_;refine aI 112 [(2,_),(8,_),(10,_),(11,_),(12,_),(13,_),(14,_),(15,_),(16,_),(17,_)] [] aa J ⟨.inl J,.inl J,.inl J,.inl J,.inl J,.inl J,.inl J,.inr ⟨_,_,rfl,rfl,rfl⟩,.inl J,.inl J,trivial⟩ trivial ?_;refine gz [3] [2,8,10,11,12,13,14,15,16,57,58] [] ?_;refine oP J (bj (b':=false) (cZ J J J) (by simp)) ?_;refine wA [3] [2,8,10,11,12,14,15,60,61,62] [] ?_;refine oP J (bj (b':=false) (cZ J J J) (by simp)) ?_;refine wA [3] [2,8,10,11,12,14,15,65,66] [] ?_;refine oP J (qH J Tryz.underlying35 J J) ?_;refine wA [2] [2,8,10,11,12,15,65,67,69] [] ?_;refine oP J (bj (b':=false) (sY Tryz.underlying4 J J J) (by simp)) ?_;refine wA [10] [2,8,10,11,12,15,72] [] ?_;refine oP J (qH J Tryz.underlying35 J J) ?_;refine wS [3002] [2,8,10,11,12,15,73] [] ?_ ?_<;>intro h2;refine wA [7,9002] [2,8,10,11] [] ?_;rotate_left;have he:eE g ((lx a.length g L m).getD k default)=0:=by simpa using h2
 rw[qB he];have hF:=oe hgs (l:=((lx a.length g L m).getD k default)) (by have:=Xq he;omega);refine wA [2004,6003,6001,1] [2,8,10,11,12,15,74,79,80] [] ?_;refine oE J J J J J J (nk hi acM) ?_;refine wA [6000,10] [2,8,10,11,12,15,18,19] [] ?_;refine lp (fun zm zs=>∃j:Nat,zm=6-j∧(j≤6)∧zs=⟨112,[(2,vvw (int i)),(8,vvw (kn g)),(10,vvw (.sl ((lx a.length g L m).map FV))),(11,vvw (int k)),(12,vvw (pD ((lx a.length g L m).getD k default) (aH g ((lx a.length g L m).getD k default)))),(15,vvw (W4 (rE g ((lx a.length g L m).getD k default)))),(18,vvw (ints [0,1,i,-1,(((lx a.length g L m).getD k default).length:Int),iO i 6])),(19,vvw (int j))],[]⟩) ?_ ?_;exact⟨_,0,rfl,aan _,rfl⟩;rintro zm zs ⟨j,rfl,fu,rfl⟩;have h66:([0,1,i,-1,(((lx a.length g L m).getD k default).length:Int),iO i 6]:List Int).length=6:=rfl;refine wS [5,3003] [2,8,10,11,12,15,18,19,86] [] ?_ ?_<;>intro h3;refine wA [2006,6003,1] [2,8,10,11,12,15,18,19,89,93] [] ?_;refine oF J J J J J J J (fm (l:=((lx a.length g L m).getD k default)) hF) ?_;refine oD J J J (au (aG J TQ QA J (aah J)) J) ?_;refine wA [6002,1] [2,8,10,11,12,15,18,19,94,95,99] [] ?_;refine oF J J J J J J J (yZ (m:=(rE g ((lx a.length g L m).getD k default))) (by rw[C2 he];exact aaO hF.n acM)) ?_;refine oD J J J (ia (b':=true) J J J (yY (a:=fy (aH g ((lx a.length g L m).getD k default)) (([0,1,i,-1,(((lx a.length g L m).getD k default).length:Int),iO i 6]:List Int).getD j default)) (b:=Q2 (rE g ((lx a.length g L m).getD k default)) (([0,1,i,-1,(((lx a.length g L m).getD k default).length:Int),iO i 6]:List Int).getD j default)) (by have:=pq hF (([0,1,i,-1,(((lx a.length g L m).getD k default).length:Int),iO i 6]:List Int).getD j default);omega) (by rw[C7 he];have:=pq hF (([0,1,i,-1,(((lx a.length g L m).getD k default).length:Int),iO i 6]:List Int).getD j default);omega) (pr hF (([0,1,i,-1,(((lx a.length g L m).getD k default).length:Int),iO i 6]:List Int).getD j default)) (by rw[C7 he];exact pr hF (([0,1,i,-1,(((lx a.length g L m).getD k default).length:Int),iO i 6]:List Int).getD j default))) aa (decide_eq_true (C7 he _).symm)) ?_;refine oD J J J (bj (b':=false) (jT J J) (rfl)) ?_;refine wA [8,9002] [2,8,10,11,12,15,18,19] [] ?_;exact⟨_,⟨j+1,rfl,acK,rfl⟩,acK⟩;refine wA [2007,1] [2,8,10,11,103] [] ?_;refine oF J J J J J J J (u9 (l:=((lx a.length g L m).getD k default)) (F:=aH g ((lx a.length g L m).getD k default)) acK) ?_;refine wZ [6002,6001,5000] ?_;refine oD J J J (bj (b':=false) (cZ J J J) (by simp)) ?_;refine wA [8,9002] [2,8,10,11] [] ?_;rotate_left;refine wZ [8] ?_;refine oC J J J J (j9) ?_;refine wZ [8004] ?_;rfl
 all_goals
  exact⟨_,⟨k+1,rfl,acK,rfl⟩,acK⟩
namespace morphNew
open Go.ChangeShapes Go.WideShapes Go.ChangeAt Go.RowKit Go.Am
theorem own:ownKnob Tryz.prog.godebug=none:=acL
theorem lifted (os:Os)(started:os.Started)(H:Type)(enc:TypeId×Value→H) :
  ReturnsInHanded {} Tryz.checked os 3 .any (Rows.morphNewSpec.pre6 enc Tryz.prog Tryz.f3 Rows.morphNewRow.domain false) (Rows.morphNewSpec.post enc Tryz.prog Tryz.f3 false true false false):=by
 refine returnsInHanded_of_change (C:=Tryz.checked) own started acL Tryz.func3
  (ChangeSpec.witness6 (enc:=enc) (C:=Tryz.checked) false ⟨#[],#[.slice none 0 0,.slice none 0 0,.int .i64 0],[]⟩ 8 acL acL acL acL) ?_
 intro W base args ds gs before hval0 hW hcnd _;have hval:∀(j:Nat) t v,Tryz.f3.params[j]?=some t→args[j]?=some v→Value.okWide Tryz.prog W .any base t v:=hval0;have hW':=hW;obtain⟨p,q,Xp,hV,rfl,hfz,hnd⟩:=hW;have hA:DataW.TrodAll enc Tryz.prog W 0 (fun _=>true) true Tryz.f3.params.toList args.toList ds p:=Xp;rw[Tryz.params3] at hA hval;obtain⟨v0,vs0,d0,ds0,p0,q0,hargs,rfl,rfl,h0,r0⟩:=trodAll_cons hA;obtain⟨v1,vs1,d1,ds1,p1,q1,rfl,rfl,rfl,h1,r1⟩:=trodAll_cons r0;obtain⟨v2,vs2,d2,ds2,p2,q2,rfl,rfl,rfl,h2,r2⟩:=trodAll_cons r1;obtain⟨rfl,rfl,rfl⟩:=trodAll_nil r2;obtain rfl:args=#[v0,v1,v2]:=by cases args;simp_all
 obtain⟨x0,y0,z0,e0⟩:=kv Tryz.underlying22 Tryz.underlying3 wu (hval 0 22 v0 rfl rfl) h0;obtain⟨x1,y1,z1,e1⟩:=kv Tryz.underlying22 Tryz.underlying3 wu (hval 1 22 v1 rfl rfl) h1;obtain⟨x2,y2,e2⟩:=JC Tryz.underlying3 (hval 2 3 v2 rfl rfl) h2;have hcall:=(Rw y0 z0 y1 z1 y2).use (w:=W) (vs:=[v0,v1,v2]) ⟨e0,e1,e2,trivial⟩;exact xm (tb:=4) acL acL acL Tryz.underlying4 J J hW' hcall
theorem Pk:Rows.morphNewRow.holds Tryz.pinned (OpenSpec.ofChange Rows.morphNewSpec) :=
 OpenClaim.holds_of_wide 3 Tryz.f3 rfl rfl rfl rfl rfl rfl rfl ⟨rfl,rfl,rfl,rfl,rfl⟩ rfl rfl rfl rfl rfl acL Tryz.func3 acL
  (of_decide_eq_true acL) (by unfold Func.isWrapper;first|(rw[if_pos (by decide +kernel)];kernel_rfl)|(rw[if_neg (by decide +kernel)];exact⟨rfl,rfl⟩))
  (fun os started H enc _=>lifted os started H enc)
end morphNew
theorem morphNew_holds:Rows.MorphNewSaid:=morphNew.Pk
end Go.Proofs.YtlapahnodhmcpaaGreat
