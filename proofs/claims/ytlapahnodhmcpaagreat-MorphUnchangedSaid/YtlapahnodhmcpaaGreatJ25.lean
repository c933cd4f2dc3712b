/-
  Part of the proof.
-/
import Derived.Test.YtlapahnodhmcpaaGreatJ0
import Derived.Test.YtlapahnodhmcpaaGreatJ16
import Derived.Test.YtlapahnodhmcpaaGreatJ24
import Derived.Test.YtlapahnodhmcpaaGreatJ20
import Derived.Test.YtlapahnodhmcpaaGreatJ14
import Derived.Test.YtlapahnodhmcpaaGreatJ17
import Derived.Test.YtlapahnodhmcpaaGreatJ19
set_option linter.unusedVariables false
set_option linter.unusedSectionVars false
set_option linter.unusedSimpArgs false
set_option maxRecDepth 100000
set_option maxHeartbeats 40000000
namespace Go.Proofs.YtlapahnodhmcpaaGreat
open Go.Am Go.We Go.Wb
abbrev Vz:=dF 4 Tryz.func222
variable{w:List Int}
theorem GY (hw:w.length≤1099511627776):∀(z:Nat)(r:Rx),r.size≤z→z≤1099511627776→aR r=true→xH Tryz.prog 222 [rx r,ints w] 134 (br 4 (b9 (w.length+1) (rB w r))):=by
 intro z
 induction z with
 | zero=>intro a hr _ _;have:=size_pos a;omega
 | succ z ih =>
 intro r hr hz hv;have hkl:=ea r;have hsl:=eA r;obtain⟨hk1,hk5,hk0⟩:=rh hv;have hx:∀m,m<r.kids.length→ak Tryz.prog 222 [rx (r.kids.getD m default),ints w] (.p (qj (b9 (w.length+1) (eC w r m)))):=fun m hm=>by
   have h:=(ih _ (abf (aaT (ij hm) hr)) acK (GK hv hm)).data na;rwa [yl] at h
 rw[ft r];refine nt Vz (aah J) fun w0 M0 aa=>?_
 refine c4 [2,3] [1,2] [] ?_;refine ct (fun zs=>zs=⟨192,[(1,vvz (ints w)),(2,vvz (wk r)),(5,.nst 30)],[(30,.nar 134 (br 4 (b9 (w.length+1) (Em (qF r)))) none)]⟩) ?_ ?_;refine wS [2,4004] [1,2,16,20] [] ?_ ?_<;>intro h1';refine wA [9] [1,2,16,29] [] ?_;refine oS J (mg J J J J J J (nb (n:=w.length) hw) aa) J ?_;refine wA [10002] [1,2,5] [30] ?_;rw[X6 acK];try rfl
 refine wS [4005] [1,2,16,25] [] ?_ ?_<;>intro h2';refine wA [4] [1,2,16,29] [] ?_;refine oS J (mg J J J J J J (nb (n:=w.length) hw) aa) J ?_;refine wA [10002] [1,2,5] [30] ?_;rw[X7 acK];try rfl
 refine wA [4] [1,2,16,29] [] ?_;refine oS J (mg J J J J J J (nb (n:=w.length) hw) aa) J ?_;refine wA [10002] [1,2,5] [30] ?_;rw[X8 acK acK];try rfl
 rintro zs ⟨rfl⟩;refine ct (fun zs=>zs=⟨192,[(1,vvz (ints w)),(2,vvz (wk r)),(5,.nst 30)],[(30,.nar 134 (br 4 (b9 (w.length+1) (KF w r 0))) none)]⟩) ?_ ?_;refine wA [6] [1,2,5,6] [30] ?_;refine lp (fun zm zs=>∃i:Nat,zm=w.length-i∧(i≤w.length)∧(r.kind≠2→i=0)∧zs=⟨192,[(1,vvz (ints w)),(2,vvz (wk r)),(5,.nst 30),(6,vvw (int i))],[(30,.nar 134 (br 4 (b9 (w.length+1) (f0 w r i))) none)]⟩) ?_ ?_;refine⟨_,0,rfl,aan _,fun _=>rfl,?_⟩;rw[Nq];try rfl
 rintro zm zs ⟨i,rfl,aY,aq,rfl⟩;refine wS [5,4002] [1,2,5,6,35] [30] ?_ ?_<;>intro h3';refine wS [3006] [1,2,5,6,39] [30] ?_ ?_<;>intro h4;refine wA [6] [1,2,5,6] [30] ?_;have hk2:r.kind=2:=acK;refine qP 30 200 aa J J J (wT (N:=(w.length+1)) (f:=f0 w r i) (i:=i) acK) ?_;refine gz [5] [1,2,5,6,7] [30,200] ?_;refine lp (fun zm zs=>∃k:Nat,zm=r.syms.length-k∧(k≤r.syms.length)∧zs=⟨192,[(1,vvz (ints w)),(2,vvz (wk r)),(5,.nst 30),(6,vvw (int i)),(7,vvw (int k))],[(30,.nar 134 (br 4 (b9 (w.length+1) (f0 w r i))) (some (i,.arr 200))),(200,.arr 4 ((fZ (w.length+1) (Eu w r.syms i k)).map bool))]⟩) ?_ ?_;refine⟨_,0,rfl,aan _,?_⟩;rw[show fZ (w.length+1) (f0 w r i i)=fZ (w.length+1) (Eu w r.syms i 0) from iv fun l _=>by rw[Cl hk2,No,J6]];try rfl
 rintro zm zs ⟨k,rfl,fu,rfl⟩;refine wS [6,3003] [1,2,5,6,7,46] [30,200] ?_ ?_<;>intro h5;refine wA [2005,2] [1,2,5,6,7,49,50] [30,200] ?_;refine oD J J J (da J Tryz.underlying289 na J J J (by rw[cA,cG];omega)) ?_;refine oD J J J (db J km J J) ?_;refine wA [6001,2] [1,2,5,6,7,52,54,55,56] [30,200] ?_;refine oD J J J (da J Tryz.underlying289 na J J J (by rw[cA,cG];omega)) ?_;refine oD J J J (db J km J J) ?_;refine wZ [6001,5000] ?_;refine oD J J J (aE J Tryz.underlying134 kc J J J (by rw[aai,bH];omega)) ?_;refine oD J J J (fh J Sc J J (iC (by rw[bH];omega)) J) ?_;refine wS [7001] [1,2,5,6,7,52,54,63] [30,200] ?_ ?_<;>intro h6';refine wA [11] [1,2,5,6,7,52,54,74] [30,200] ?_;refine oD J J J (aE J Tryz.underlying134 kc J J J (by rw[aai,bH];omega)) ?_;refine cT acL ?_;refine dE J (ay J J J kc J J (iC (by rw[bH];omega)) J J (.inl J) J (aah J) aa) ?_;refine fe ?_;refine iS [4,9002] [1,2,5,6,7] [30,200] ?_;refine⟨_,⟨k+1,rfl,acK,?_⟩,acK⟩;rw [← j6 (N := (w.length + 1)) (g := Eu w r.syms i k) (v := true) (g' := Eu w r.syms i (k + 1)) (j := i + 1) acK fun l hl => by
     rw[Ev acK,show Eu w r.syms i k (i+1)=true from(fC (N:=(w.length+1)) acK).symm.trans acN];rfl]
 try rfl
 refine wA [6003,6003,3] [1,2,5,6,7,52,54,74] [30,200] ?_;refine oD J J J (aE J Tryz.underlying134 kc J J J (by rw[aai,bH];omega)) ?_;refine cT acL ?_;refine dE J (ay J J J kc J J (iC (by rw[bH];omega)) J J (.inl J) J (aah J) aa) ?_;refine fe ?_;refine iS [4,9002] [1,2,5,6,7] [30,200] ?_;refine⟨_,⟨k+1,rfl,acK,?_⟩,acK⟩;rw [← j6 (N := (w.length + 1)) (g := Eu w r.syms i k) (v := decide (r.syms.getD k default = w.getD i default)) (g' := Eu w r.syms i (k + 1)) (j := i + 1) acK fun l hl => by
     rw[Ev acK,show Eu w r.syms i k (i+1)=false from(fC (N:=(w.length+1)) acK).symm.trans acN];rfl]
 try rfl
 refine wA [7] [1,2,5,6] [30,200] ?_;obtain rfl:k=r.syms.length:=acK;refine kI 30 200 aa J J (by rw[cA,cG];omega) J ?_;refine gz [2,9002] [1,2,5,6] [30] ?_;refine⟨_,⟨i+1,rfl,acK,fun q=>absurd hk2 q,?_⟩,acK⟩;rw [rf (N := (w.length + 1)) (f := f0 w r i) (g := Eu w r.syms i r.syms.length) (i := i) (f' := f0 w r (i + 1)) acK fun k l hk hl => by
     rw[Cl hk2,Cl hk2,Np,Qd (aak _)]]
 try rfl
 refine wA [10005] [1,2,5] [30] ?_;rotate_left;refine wA [10011] [1,2,5] [30] ?_;rotate_left;rintro zs ⟨rfl⟩;refine wA [7] [1,2,5,8] [30] ?_;refine lr (fun zl zo zm zs=>∃m:Nat,zm=r.kids.length-m∧(m≤r.kids.length)∧zs=eJ 192 [(8,vvw (int m))] zl [(30,.nar 134 (br 4 (b9 (w.length+1) (KF w r m))) none)] zo) ?_ ?_;exact⟨_,0,rfl,aan _,rfl⟩;rintro zm zs ⟨m,rfl,A8,rfl⟩;refine wS [6,3003] [1,2,5,8,80] [30] ?_ ?_<;>intro h7;refine wA [10,2] [1,2,5,8,87,88] [30] ?_;refine oC J J J J (hx m acK) ?_;refine wA [3] [1,2,5,8,9] [30] ?_;refine ct (fun zs=>zs=⟨192,[(1,vvz (ints w)),(2,vvz (wk r)),(5,.nst 30),(8,vvw (int m)),(9,vvw (qj (b9 (w.length+1) (eC w r m))))],[(30,.nar 134 (br 4 (b9 (w.length+1) (f1 w r m))) none)]⟩) ?_ ?_;refine wS [3007] [1,2,5,8,9,92] [30] ?_ ?_<;>intro h8;refine wA [1] [1,2,5,8,9] [30] ?_;refine Gj 5 aa J J J na ?_;refine aI 192 [(1,_),(2,_),(5,_),(8,_),(9,_)] [] aa J ⟨.inl J,.inl J,.inr ⟨_,_,rfl,rfl,rfl⟩,.inl J,.inl J,trivial⟩ trivial ?_;rw[yl];refine gz [3] [1,2,8,9,93,94] [] ?_;refine oS J (mg J J J J J J (CA (n:=w.length) (a:=KF w r m) (b:=(eC w r m)) hw) aa) J ?_;refine wA [1] [1,2,5,8,9] [95] ?_;refine PQ 5 30 aa J J J J ?_;refine Xw [10001] [1,2,5,8,9] [30] ?_;rw[X9 acK acK];try rfl
 refine wA [10002] [1,2,5,8,9] [30] ?_;rw[U7 acK];try rfl
 rintro zs ⟨rfl⟩;refine ct (fun zs=>zs=⟨192,[(1,vvz (ints w)),(2,vvz (wk r)),(5,.nst 30),(8,vvw (int m)),(9,vvw (qj (b9 (w.length+1) (eC w r m))))],[(30,.nar 134 (br 4 (b9 (w.length+1) (f2 w r m))) none)]⟩) ?_ ?_;refine wA [6] [1,2,5,8,9,10] [30] ?_;have hm:m<r.kids.length:=acK;refine lp (fun zm zs=>∃i:Nat,zm=(w.length+1)-i∧(i≤(w.length+1))∧(r.kind≠4→i=0)∧zs=⟨192,[(1,vvz (ints w)),(2,vvz (wk r)),(5,.nst 30),(8,vvw (int m)),(9,vvw (qj (b9 (w.length+1) (eC w r m)))),(10,vvw (int i))],[(30,.nar 134 (br 4 (b9 (w.length+1) (a4 w r m i))) none)]⟩) ?_ ?_;refine⟨_,0,rfl,aan _,fun _=>rfl,?_⟩;rw[Nr];try rfl
 rintro zm zs ⟨i,rfl,IA,Z9,rfl⟩;have hrl:(br 4 (b9 (w.length+1) (a4 w r m i))).length=(w.length+1):=by rw[cA,cG]
 refine wS [5,4002] [1,2,5,8,9,10,100] [30] ?_ ?_<;>intro h9';refine wS [3006] [1,2,5,8,9,10,104] [30] ?_ ?_<;>intro h10;refine wA [6] [1,2,5,8,9,10] [30] ?_;have hk4:r.kind=4:=acK;refine qP 30 200 aa J J J (wT (N:=(w.length+1)) (f:=a4 w r m i) (i:=i) acK) ?_;refine gz [5] [1,2,5,8,9,10,11] [30,200] ?_;refine lp (fun zm zs=>∃k:Nat,zm=(w.length+1)-k∧(k≤(w.length+1))∧zs=⟨192,[(1,vvz (ints w)),(2,vvz (wk r)),(5,.nst 30),(8,vvw (int m)),(9,vvw (qj (b9 (w.length+1) (eC w r m)))),(10,vvw (int i)),(11,vvw (int k))],[(30,.nar 134 (br 4 (b9 (w.length+1) (a4 w r m i))) (some (i,.arr 200))),(200,.arr 4 ((fZ (w.length+1) (Er (KF w r m) (eC w r m) i k)).map bool))]⟩) ?_ ?_;refine⟨_,0,rfl,aan _,?_⟩;rw[show fZ (w.length+1) (a4 w r m i i)=fZ (w.length+1) (Er (KF w r m) (eC w r m) i 0) from iv fun l _=>by rw[wU hk4,Nh,J2]];try rfl
 rintro zm zs ⟨k,rfl,vO,rfl⟩;have hrl2:(br 4 (b9 (w.length+1) (a4 w r m i))).length=(w.length+1):=by rw[cA,cG]
 refine wS [5,3003] [1,2,5,8,9,10,11,110] [30,200] ?_ ?_<;>intro h11;refine wA [2005,2] [1,2,5,8,9,10,11,113,114] [30,200] ?_;refine oD J J J (da J Tryz.underlying289 na J J J (by rw[cA,cG];omega)) ?_;refine oD J J J (db J km J J) ?_;refine wA [3] [1,2,5,8,9,10,11,116,117,118,119] [30,200] ?_;refine oD J J J (da J Tryz.underlying289 na J J J (by rw[cA,cG];omega)) ?_;refine oD J J J (db J km J J) ?_;refine wA [1] [1,2,5,8,9,10,11,116,117,121,122] [30,200] ?_;refine oD J J J (aE J Tryz.underlying134 kc J J J (by rw[aai,bH];omega)) ?_;refine oD J J J (fh J Sc J J (iC (by rw[bH];omega)) J) ?_;refine wS [7001] [1,2,5,8,9,10,11,116,117,125] [30,200] ?_ ?_<;>intro h12';refine wA [8] [1,2,5,8,9,10,11,116,117,133] [30,200] ?_;refine oD J J J (aE J Tryz.underlying134 kc J J J (by rw[aai,bH];omega)) ?_;refine cT acL ?_;refine dE J (ay J J J kc J J (iC (by rw[bH];omega)) J J (.inl J) J (aah J) aa) ?_;refine fe ?_;refine iS [4,9002] [1,2,5,8,9,10,11] [30,200] ?_;refine⟨_,⟨k+1,rfl,acK,?_⟩,acK⟩;rw [← j6 (N := (w.length + 1)) (g := Er (KF w r m) (eC w r m) i k) (v := true) (g' := Er (KF w r m) (eC w r m) i (k + 1)) (j := k) acK fun l hl => by
     rw[Es,show Er (KF w r m) (eC w r m) i k k=true from(fC (N:=(w.length+1)) acK).symm.trans acN];rfl]
 try rfl
 refine wA [2] [1,2,5,8,9,10,11,116,117,125,126,127] [30,200] ?_;refine oD J J J (dS J Tryz.underlying289 na J J (by rw[cG];omega) (fun _=>rfl)) ?_;refine wA [2] [1,2,5,8,9,10,11,116,117,125,129,130] [30,200] ?_;refine oD J J J (dS J Tryz.underlying134 kc J J (by(try simp only[abC]);rw[kM acK,bH];omega) (fun _=>rfl)) ?_;refine wA [2] [1,2,5,8,9,10,11,116,117,133] [30,200] ?_;refine oD J J J (aE J Tryz.underlying134 kc J J J (by rw[aai,bH];omega)) ?_;refine cT acL ?_;refine dE J (ay J J J kc J J (iC (by rw[bH];omega)) J J (.inl J) J (aah J) aa) ?_;refine fe ?_;refine iS [4,9002] [1,2,5,8,9,10,11] [30,200] ?_;refine⟨_,⟨k+1,rfl,acK,?_⟩,acK⟩;have e:((b9 (w.length+1) (eC w r m)).getD i default).getD k default=(eC w r m) i k:=by rw[kM acK,fC acK]
 rw [← j6 (N := (w.length + 1)) (g := Er (KF w r m) (eC w r m) i k) (v := ((b9 (w.length + 1) (eC w r m)).getD i default).getD k default) (g' := Er (KF w r m) (eC w r m) i (k + 1)) (j := k) acK fun l hl => by
     rw[e,Es,show Er (KF w r m) (eC w r m) i k k=false from(fC (N:=(w.length+1)) acK).symm.trans acN];rfl]
 try rfl
 refine wA [7] [1,2,5,8,9,10] [30,200] ?_;obtain rfl:k=(w.length+1):=acK;refine kI 30 200 aa J J (by rw[cA,cG];omega) J ?_;refine gz [2,9002] [1,2,5,8,9,10] [30] ?_;refine⟨_,⟨i+1,rfl,acK,fun q=>absurd hk4 q,?_⟩,acK⟩;rw [rf (N := (w.length + 1)) (f := a4 w r m i) (g := Er (KF w r m) (eC w r m) i (w.length + 1)) (i := i) (f' := a4 w r m (i + 1)) acK fun k l hk hl => by
     rw[wU hk4,wU hk4,Ni,P9 hl]]
 try rfl
 refine wA [10005] [1,2,5,8,9] [30] ?_;rotate_left;refine wA [10011] [1,2,5,8,9] [30] ?_;rotate_left;rintro zs ⟨rfl⟩;have hm:m<r.kids.length:=acK;refine wA [6] [1,2,5,8,9,12] [30] ?_;refine lp (fun zm zs=>∃i:Nat,zm=(w.length+1)-i∧(i≤(w.length+1))∧(r.kind≠5→i=0)∧zs=⟨192,[(1,vvz (ints w)),(2,vvz (wk r)),(5,.nst 30),(8,vvw (int m)),(9,vvw (qj (b9 (w.length+1) (eC w r m)))),(12,vvw (int i))],[(30,.nar 134 (br 4 (b9 (w.length+1) (a6 w r m i))) none)]⟩) ?_ ?_;refine⟨_,0,rfl,aan _,fun _=>rfl,?_⟩;rw[Ns hk5 hm];try rfl
 rintro zm zs ⟨i,rfl,aaa,aab,rfl⟩;have hrl:(br 4 (b9 (w.length+1) (a6 w r m i))).length=(w.length+1):=by rw[cA,cG]
 refine wS [5,4002] [1,2,5,8,9,12,139] [30] ?_ ?_<;>intro h13';refine wS [3006] [1,2,5,8,9,12,143] [30] ?_ ?_<;>intro h14;refine wA [6] [1,2,5,8,9,12] [30] ?_;have hk55:r.kind=5:=acK;refine qP 30 200 aa J J J (wT (N:=(w.length+1)) (f:=a6 w r m i) (i:=i) acK) ?_;refine gz [6] [1,2,5,8,9,12,13] [30,200] ?_;refine lp (fun zm zs=>∃k:Nat,zm=(w.length+1)-k∧(i≤k)∧(k≤(w.length+1))∧zs=⟨192,[(1,vvz (ints w)),(2,vvz (wk r)),(5,.nst 30),(8,vvw (int m)),(9,vvw (qj (b9 (w.length+1) (eC w r m)))),(12,vvw (int i)),(13,vvw (int k))],[(30,.nar 134 (br 4 (b9 (w.length+1) (a6 w r m i))) (some (i,.arr 200))),(200,.arr 4 ((fZ (w.length+1) (qk (eC w r m) i k)).map bool))]⟩) ?_ ?_;refine⟨_,i,rfl,aak _,acK,?_⟩;rw[show fZ (w.length+1) (a6 w r m i i)=fZ (w.length+1) (qk (eC w r m) i i) from iv fun l _=>by rw[wV hk55,Nl,R1 (aak i)]];try rfl
 rintro zm zs ⟨k,rfl,aac,aad,rfl⟩;have hrl2:(br 4 (b9 (w.length+1) (a6 w r m i))).length=(w.length+1):=by rw[cA,cG]
 refine wS [5,3003] [1,2,5,8,9,12,13,150] [30,200] ?_ ?_<;>intro h15;refine wA [12] [1,2,5,8,9,12,13,14] [30,200] ?_;refine lp (fun zm zs=>∃j:Nat,zm=(w.length+1)-j∧(k≤j)∧(j≤(w.length+1))∧zs=⟨192,[(1,vvz (ints w)),(2,vvz (wk r)),(5,.nst 30),(8,vvw (int m)),(9,vvw (qj (b9 (w.length+1) (eC w r m)))),(12,vvw (int i)),(13,vvw (int k)),(14,vvw (int j))],[(30,.nar 134 (br 4 (b9 (w.length+1) (a6 w r m i))) (some (i,.arr 200))),(200,.arr 4 ((fZ (w.length+1) (zw (eC w r m) i k j)).map bool))]⟩) ?_ ?_;refine⟨_,k,rfl,aak _,acK,?_⟩;rw[show fZ (w.length+1) (qk (eC w r m) i k)=fZ (w.length+1) (zw (eC w r m) i k k) from iv fun l _=>J4.symm];try rfl
 rintro zm zs ⟨j,rfl,aae,aaf,rfl⟩;have hrl3:(br 4 (b9 (w.length+1) (a6 w r m i))).length=(w.length+1):=by rw[cA,cG]
 refine wS [5,4002] [1,2,5,8,9,12,13,14,158] [30,200] ?_ ?_<;>intro h16';refine wA [2] [1,2,5,8,9,12,13,14,158,159,160] [30,200] ?_;refine oP J (da J Tryz.underlying289 na J J J (by rw[cA,cG];omega)) ?_;refine oP J (db J km J J) ?_;refine wA [1] [1,2,5,8,9,12,13,14,158,162,163] [30,200] ?_;refine oP J (aE J Tryz.underlying134 kc J J J (by rw[aai,bH];omega)) ?_;refine oP J (fh J Sc J J (iC (by rw[bH];omega)) J) ?_;refine wS [3003] [1,2,5,8,9,12,13,14,166] [30,200] ?_ ?_<;>intro h17;refine wA [2005,2] [1,2,5,8,9,12,13,14,169,170] [30,200] ?_;refine oD J J J (da J Tryz.underlying289 na J J J (by rw[cA,cG];omega)) ?_;refine oD J J J (db J km J J) ?_;refine wA [3] [1,2,5,8,9,12,13,14,172,173,174,175] [30,200] ?_;refine oD J J J (da J Tryz.underlying289 na J J J (by rw[cA,cG];omega)) ?_;refine oD J J J (db J km J J) ?_;refine wA [1] [1,2,5,8,9,12,13,14,172,173,177,178] [30,200] ?_;refine oD J J J (aE J Tryz.underlying134 kc J J J (by rw[aai,bH];omega)) ?_;refine oD J J J (fh J Sc J J (iC (by rw[bH];omega)) J) ?_;refine wS [7001] [1,2,5,8,9,12,13,14,172,173,181] [30,200] ?_ ?_<;>intro h18';refine wA [8] [1,2,5,8,9,12,13,14,172,173,189] [30,200] ?_;refine oD J J J (aE J Tryz.underlying134 kc J J J (by rw[aai,bH];omega)) ?_;refine cT acL ?_;refine dE J (ay J J J kc J J (iC (by rw[bH];omega)) J J (.inl J) J (aah J) aa) ?_;refine fe ?_;refine iS [4,9002] [1,2,5,8,9,12,13,14] [30,200] ?_;refine⟨_,⟨j+1,rfl,acK,acK,?_⟩,acK⟩;have ha:qk (eC w r m) i k k=true:=Nk.symm.trans ((fC (N:=(w.length+1)) (g:=zw (eC w r m) i k j) (j:=k) acK).symm.trans acN);rw [← j6 (N := (w.length + 1)) (g := zw (eC w r m) i k j) (v := true) (g' := zw (eC w r m) i k (j + 1)) (j := j) acK fun l hl => by
     rw[Et acK ha,show zw (eC w r m) i k j j=true from(fC (N:=(w.length+1)) acK).symm.trans acN];rfl]
 try rfl
 refine wA [2] [1,2,5,8,9,12,13,14,172,173,181,182,183] [30,200] ?_;refine oD J J J (dS J Tryz.underlying289 na J J (by rw[cG];omega) (fun _=>rfl)) ?_;refine wA [2] [1,2,5,8,9,12,13,14,172,173,181,185,186] [30,200] ?_;refine oD J J J (dS J Tryz.underlying134 kc J J (by(try simp only[abC]);rw[kM acK,bH];omega) (fun _=>rfl)) ?_;refine wA [2] [1,2,5,8,9,12,13,14,172,173,189] [30,200] ?_;refine oD J J J (aE J Tryz.underlying134 kc J J J (by rw[aai,bH];omega)) ?_;refine cT acL ?_;refine dE J (ay J J J kc J J (iC (by rw[bH];omega)) J J (.inl J) J (aah J) aa) ?_;refine fe ?_;refine iS [4,9002] [1,2,5,8,9,12,13,14] [30,200] ?_;refine⟨_,⟨j+1,rfl,acK,acK,?_⟩,acK⟩;have ha:qk (eC w r m) i k k=true:=Nk.symm.trans ((fC (N:=(w.length+1)) (g:=zw (eC w r m) i k j) (j:=k) acK).symm.trans acN);have e:((b9 (w.length+1) (eC w r m)).getD k default).getD j default=(eC w r m) k j:=by rw[kM acK,fC acK]
 rw [← j6 (N := (w.length + 1)) (g := zw (eC w r m) i k j) (v := ((b9 (w.length + 1) (eC w r m)).getD k default).getD j default) (g' := zw (eC w r m) i k (j + 1)) (j := j) acK fun l hl => by
     rw[e,Et acK ha,show zw (eC w r m) i k j j=false from(fC (N:=(w.length+1)) acK).symm.trans acN];rfl]
 try rfl
 refine wA [9,9002] [1,2,5,8,9,12,13] [30,200] ?_;rotate_left;refine wA [19,9002] [1,2,5,8,9,12,13] [30,200] ?_;rotate_left;refine wA [7] [1,2,5,8,9,12] [30,200] ?_;obtain rfl:k=(w.length+1):=acK;refine kI 30 200 aa J J (by rw[cA,cG];omega) J ?_;refine gz [2,9002] [1,2,5,8,9,12] [30] ?_;refine⟨_,⟨i+1,rfl,acK,fun q=>absurd hk55 q,?_⟩,acK⟩;rw [rf (N := (w.length + 1)) (f := a6 w r m i) (g := qk (eC w r m) i (w.length + 1)) (i := i) (f' := a6 w r m (i + 1)) acK fun k l hk hl => by
     rw[wV hk55,wV hk55,Nn]]
 try rfl
 refine wA [9,9002] [1,2,5,8] [30] ?_;rotate_left;refine wA [15,9002] [1,2,5,8] [30] ?_;rotate_left;refine wZ [13] ?_;refine xI J J ?_;obtain rfl:m=r.kids.length:=acK;rw[Ts hv]
 all_goals first
  | (
    rw[Tp hk1 acN (fun q=>by omega)];try rfl;done)
  | (
    rw[Tq hm acN (fun q=>by omega)];try rfl;done)
  | (
    refine⟨_,⟨k+1,rfl,acK,acK,?_⟩,acK⟩;rw[show fZ (w.length+1) (zw (eC w r m) i k j)=fZ (w.length+1) (qk (eC w r m) i (k+1)) from iv fun l hl=>Qb acK (by first|exact .inl acK|exact .inr (Nk.symm.trans ((fC (N:=(w.length+1)) acK).symm.trans acN)))];try rfl;done)
  | (
    refine⟨_,⟨m+1,rfl,acK,?_⟩,acK⟩;rw[Tr hv hm acN (fun q=>by omega)];try rfl;done)
abbrev VA:=dF 4 Tryz.func231
theorem cQ {a b:Int}:ak Tryz.prog 231 [int a,int b] (.p (int (bQ a b))):=by
 refine cF VA fun w0 M0 aa=>?_
 refine pW [3013] [0,1,7] [] ?_ ?_<;>intro h1;refine wZ [8008] ?_;rotate_left;refine wS [3011] [10] [] ?_ ?_<;>intro h2;refine wZ [8008] ?_;rotate_left;refine wZ [8009] ?_;rotate_left
 all_goals
  unfold bQ;(repeat' split)<;>first|rfl|omega
abbrev VB:=dF 2 Tryz.func197
theorem EK {l:List Int}(hl:l.length≤9223372036854775807):ak Tryz.prog 197 [ints l] (.p (bool (jY l))):=by
 refine cF VB fun w0 M0 aa=>?_
 refine c4 [9,4] [0,5,6,7] [] ?_;refine lr (fun zl zo zm zs=>∃k:Nat,zm=l.length-k∧(k≤l.length)∧(∀j,j<k→wm l j)∧zs=eJ 35 [(5,vvz (ints l)),(6,vvw (int l.length)),(7,vvw (int k))] zl [] zo) ?_ ?_;exact⟨_,0,rfl,aan _,fun j hj=>absurd hj acK,rfl⟩;rintro zm zs ⟨k,rfl,aY,aq,rfl⟩;refine wS [3006] [0,5,6,7,8] [] ?_ ?_<;>intro h1;refine wS [8,4010] [0,3,4,5,6,7,14] [] ?_ ?_<;>intro h2';refine wZ [8030] ?_;rotate_left;refine wS [4004] [0,3,4,5,6,7,18] [] ?_ ?_<;>intro h3';refine wZ [8026] ?_;rotate_left;refine wS [4003] [0,3,4,5,6,7,18,21] [] ?_ ?_<;>intro h4';refine wS [3,0,3006] [0,5,6,7,30] [] ?_ ?_<;>intro h5;refine wZ [8012] ?_;rotate_left;refine wA [5,9002] [0,5,6,7] [] ?_;rotate_left;refine wA [16,9002] [0,5,6,7] [] ?_;rotate_left;refine wZ [9,8005] ?_;rw[AE (fun j hj=>aq j acK)];exact congrArg (fun b=>RV.p (bool b)) (decide_eq_decide.2 acK)
 all_goals first
  | (
    rw[←DZ (l:=l) (k:=k) acK (fun q=>by obtain⟨q1,q2,q3⟩:=q;omega)];done)
  | (
    exact⟨_,⟨k+1,rfl,acK,bX aq ⟨acK,acK,fun _=>acK⟩,rfl⟩,acK⟩;done)
abbrev VC:=dF 2 Tryz.func136
theorem Kp {l:List Int}(hl:l.length≤9223372036854775807):ak Tryz.prog 136 [ints l] (.p (bool (jY l))):=by
 refine cF VC fun w0 M0 aa=>?_
 refine c4 [12] [0,3] [] ?_;refine lr (fun zl zo zm zs=>∃k:Nat,zm=l.length-k∧(k≤l.length)∧(∀j,j<k→wm l j)∧zs=eJ 41 [(3,vvw (int k))] zl [] zo) ?_ ?_;exact⟨_,0,rfl,aan _,fun j hj=>absurd hj acK,rfl⟩;rintro zm zs ⟨k,rfl,aY,aq,rfl⟩;refine wS [5,3003] [0,3,7] [] ?_ ?_<;>intro h1;refine wS [2006,6002,7003] [0,3,15] [] ?_ ?_<;>intro h2';refine wZ [8036] ?_;rotate_left;refine wS [6002,7004] [0,3,22] [] ?_ ?_<;>intro h3';refine wZ [8029] ?_;rotate_left;refine wS [7003] [0,3,22,25] [] ?_ ?_<;>intro h4';refine wS [6002,6003,6000,3006] [0,3,37] [] ?_ ?_<;>intro h5;refine wZ [8012] ?_;rotate_left;refine wA [6,9002] [0,3] [] ?_;rotate_left;refine wA [20,9002] [0,3] [] ?_;rotate_left;refine wZ [9,8005] ?_;rw[AE (fun j hj=>aq j acK)];exact congrArg (fun b=>RV.p (bool b)) (decide_eq_decide.2 acK)
 all_goals first
  | (
    rw[←DZ (l:=l) (k:=k) acK (fun q=>by obtain⟨q1,q2,q3⟩:=q;omega)];done)
  | (
    exact⟨_,⟨k+1,rfl,acK,bX aq ⟨acK,acK,fun _=>acK⟩,rfl⟩,acK⟩;done)
abbrev VD:=dF 4 Tryz.func193
theorem rR:∀ (m:Nat)(a b:Rx),a.size≤m→m≤1099511627776→b.size≤1099511627776→ak Tryz.prog 193 [rx a,rx b] (.p (int (df a b))):=by
 intro m
 induction m with
 | zero=>intro a _ hr _ _;have:=size_pos a;omega
 | succ m ih =>
 intro a b hr hm hbs;have hkl:=ea a;have hkl2:=ea b;have hsl:=eA a;have hsl2:=eA b;rw[ft a,ft b];refine cF VD fun w0 M0 aa=>?_
 refine c4 [2,0,9] [2,3,9,11] [] ?_;refine oC J J J J (cQ) ?_;refine wA [10] [2,3,5,6] [] ?_;refine lr (fun zl zo zm zs=>∃(i:Nat)(c:Int),zm=a.syms.length-i∧(i≤a.syms.length)∧(i≤b.syms.length)∧(nI (bQ a.kind b.kind) (bA a.syms b.syms)=nI c (bA (a.syms.drop i) (b.syms.drop i)))∧zs=eJ 90 [(5,vvw (int c)),(6,vvw (int i))] zl [] zo) ?_ ?_;exact⟨_,0,_,rfl,aan _,aan _,rfl,rfl⟩;rintro zm zs ⟨i,c,rfl,aY,aq,cY,rfl⟩;refine wS [6,4002] [2,3,5,6,18] [] ?_ ?_<;>intro h1';refine wS [3,4003] [2,3,5,6,25] [] ?_ ?_<;>intro h2';refine wS [3005] [2,3,5,6,28] [] ?_ ?_<;>intro h3;refine wA [2005,6003,6004,1] [2,3,6,35,40] [] ?_;refine oE J J J J J J (cQ) ?_;refine wA [6,9002] [2,3,5,6] [] ?_;exact⟨_,⟨i+1,_,rfl,acK,acK,MC cY acK acK acK,rfl⟩,acK⟩;refine wA [6] [2,3,5] [] ?_;refine ct (fun zs=>∃z:Int,(z=nI (bQ a.kind b.kind) (bA a.syms b.syms))∧zs=⟨90,[(2,vvz (wk a)),(3,vvz (wk b)),(5,vvw (int z))],[]⟩) ?_ ?_;refine wS [3006] [2,3,5,43] [] ?_ ?_<;>intro h4;refine wZ [4,2,5000] ?_;refine oC J J J J (cQ) ?_;refine wA [10002] [2,3,5] [] ?_;rotate_left;refine wA [10002] [2,3,5] [] ?_;rotate_left;rintro zs ⟨z,vP,rfl⟩;refine wA [7] [2,3,5,7] [] ?_;refine lp (fun zm zs=>∃(i:Nat)(c:Int),zm=a.kids.length-i∧(i≤a.kids.length)∧(i≤b.kids.length)∧(df a b=nI c (cE (a.kids.drop i) (b.kids.drop i)))∧zs=⟨90,[(2,vvz (wk a)),(3,vvz (wk b)),(5,vvw (int c)),(7,vvw (int i))],[]⟩) ?_ ?_;exact⟨_,0,_,rfl,aan _,aan _,by rw[vP];exact tj a b,rfl⟩;rintro zm zs ⟨i,c,rfl,fu,gi,nc,rfl⟩;refine wS [6,4002] [2,3,5,7,56] [] ?_ ?_<;>intro h5';refine wS [3,4003] [2,3,5,7,63] [] ?_ ?_<;>intro h6';refine wS [3005] [2,3,5,7,66] [] ?_ ?_<;>intro h7;refine wA [2005,6003,6004,1] [2,3,7,73,78] [] ?_;refine oE J J J J J J (ih _ _ (abf (aaT (ij acK) hr)) acK (aaO (Nat.le_of_lt (ij acK)) hbs)) ?_;refine wA [6,9002] [2,3,5,7] [] ?_;rotate_left;refine wS [3013] [2,3,5,81] [] ?_ ?_<;>intro h8;refine wZ [4,2,5000] ?_;refine oC J J J J (cQ) ?_;refine wZ [8010] ?_;rotate_left;refine wZ [8010] ?_;rotate_left;refine wS [3018] [2,3,5,81] [] ?_ ?_<;>intro h9;refine wZ [4,2,5000] ?_;refine oC J J J J (cQ) ?_;refine wZ [8010] ?_;rotate_left;refine wZ [8010] ?_;rotate_left;refine wS [3025] [2,3,5,81] [] ?_ ?_<;>intro h10;refine wZ [4,2,5000] ?_;refine oC J J J J (cQ) ?_;refine wZ [8010] ?_;rotate_left;refine wZ [8010] ?_;rotate_left;refine wA [11] [2,3,5] [] ?_;refine ct (fun zs=>∃z:Int,(z=nI (bQ a.kind b.kind) (bA a.syms b.syms))∧zs=⟨90,[(2,vvz (wk a)),(3,vvz (wk b)),(5,vvw (int z))],[]⟩) ?_ ?_;refine wS [3006] [2,3,5,43] [] ?_ ?_<;>intro h11;refine wZ [4,2,5000] ?_;refine oC J J J J (cQ) ?_;refine wA [10002] [2,3,5] [] ?_;rotate_left;refine wA [10002] [2,3,5] [] ?_;rotate_left;rintro zs ⟨z,vP,rfl⟩;refine wA [7] [2,3,5,7] [] ?_;refine lp (fun zm zs=>∃(i:Nat)(c:Int),zm=a.kids.length-i∧(i≤a.kids.length)∧(i≤b.kids.length)∧(df a b=nI c (cE (a.kids.drop i) (b.kids.drop i)))∧zs=⟨90,[(2,vvz (wk a)),(3,vvz (wk b)),(5,vvw (int c)),(7,vvw (int i))],[]⟩) ?_ ?_;exact⟨_,0,_,rfl,aan _,aan _,by rw[vP];exact tj a b,rfl⟩;rintro zm zs ⟨i,c,rfl,fu,gi,nc,rfl⟩;refine wS [6,4002] [2,3,5,7,56] [] ?_ ?_<;>intro h12';refine wS [3,4003] [2,3,5,7,63] [] ?_ ?_<;>intro h13';refine wS [3005] [2,3,5,7,66] [] ?_ ?_<;>intro h14;refine wA [2005,6003,6004,1] [2,3,7,73,78] [] ?_;refine oE J J J J J J (ih _ _ (abf (aaT (ij acK) hr)) acK (aaO (Nat.le_of_lt (ij acK)) hbs)) ?_;refine wA [6,9002] [2,3,5,7] [] ?_;rotate_left;refine wS [3013] [2,3,5,81] [] ?_ ?_<;>intro h15;refine wZ [4,2,5000] ?_;refine oC J J J J (cQ) ?_;refine wZ [8010] ?_;rotate_left;refine wZ [8010] ?_;rotate_left;refine wS [3018] [2,3,5,81] [] ?_ ?_<;>intro h16;refine wZ [4,2,5000] ?_;refine oC J J J J (cQ) ?_;refine wZ [8010] ?_;rotate_left;refine wZ [8010] ?_;rotate_left;refine wS [3025] [2,3,5,81] [] ?_ ?_<;>intro h17;refine wZ [4,2,5000] ?_;refine oC J J J J (cQ) ?_;refine wZ [8010] ?_;rotate_left;refine wZ [8010] ?_;rotate_left;refine wA [18] [2,3,5] [] ?_;refine ct (fun zs=>∃z:Int,(z=nI (bQ a.kind b.kind) (bA a.syms b.syms))∧zs=⟨90,[(2,vvz (wk a)),(3,vvz (wk b)),(5,vvw (int z))],[]⟩) ?_ ?_;refine wS [3006] [2,3,5,43] [] ?_ ?_<;>intro h18;refine wZ [4,2,5000] ?_;refine oC J J J J (cQ) ?_;refine wA [10002] [2,3,5] [] ?_;rotate_left;refine wA [10002] [2,3,5] [] ?_;rotate_left;rintro zs ⟨z,vP,rfl⟩;refine wA [7] [2,3,5,7] [] ?_;refine lp (fun zm zs=>∃(i:Nat)(c:Int),zm=a.kids.length-i∧(i≤a.kids.length)∧(i≤b.kids.length)∧(df a b=nI c (cE (a.kids.drop i) (b.kids.drop i)))∧zs=⟨90,[(2,vvz (wk a)),(3,vvz (wk b)),(5,vvw (int c)),(7,vvw (int i))],[]⟩) ?_ ?_;exact⟨_,0,_,rfl,aan _,aan _,by rw[vP];exact tj a b,rfl⟩;rintro zm zs ⟨i,c,rfl,fu,gi,nc,rfl⟩;refine wS [6,4002] [2,3,5,7,56] [] ?_ ?_<;>intro h19';refine wS [3,4003] [2,3,5,7,63] [] ?_ ?_<;>intro h20';refine wS [3005] [2,3,5,7,66] [] ?_ ?_<;>intro h21;refine wA [2005,6003,6004,1] [2,3,7,73,78] [] ?_;refine oE J J J J J J (ih _ _ (abf (aaT (ij acK) hr)) acK (aaO (Nat.le_of_lt (ij acK)) hbs)) ?_;refine wA [6,9002] [2,3,5,7] [] ?_;rotate_left;refine wS [3013] [2,3,5,81] [] ?_ ?_<;>intro h22;refine wZ [4,2,5000] ?_;refine oC J J J J (cQ) ?_;refine wZ [8010] ?_;rotate_left;refine wZ [8010] ?_;rotate_left;refine wS [3018] [2,3,5,81] [] ?_ ?_<;>intro h23;refine wZ [4,2,5000] ?_;refine oC J J J J (cQ) ?_;refine wZ [8010] ?_;rotate_left;refine wZ [8010] ?_;rotate_left;refine wS [3025] [2,3,5,81] [] ?_ ?_<;>intro h24;refine wZ [4,2,5000] ?_;refine oC J J J J (cQ) ?_;refine wZ [8010] ?_;rotate_left;refine wZ [8010] ?_;rotate_left
 all_goals first
  | (
    first|(exfalso;omega)|exact⟨_,H0 cY acK,rfl⟩|exact⟨_,PV cY acK aY aq acK,rfl⟩;done)
  | (
    exact⟨_,⟨i+1,_,rfl,acK,acK,MD nc acK acK acK,rfl⟩,acK⟩;done)
  | (
    first|(exfalso;omega)|exact congrArg (fun z=>RV.p (int z)) (H0 nc acK)|exact congrArg (fun z=>RV.p (int z)) (PW nc acK fu gi acK);done)
abbrev VE:=dF 4 Tryz.func194
theorem A9 {a b:Rx}(ha:a.size≤1099511627776)(hb:b.size≤1099511627776):ak Tryz.prog 194 [rx a,rx b] (.p (bool (decide (df a b=0)))):=by
 refine cF VE fun w0 M0 aa=>?_
 refine c4 [2,0,7] [5,6] [] ?_;refine oC J J J J (rR _ _ _ ha (aak _) hb) ?_;refine wZ [8005] ?_;rfl
abbrev Yz:=dF 2 Tryz.func93
theorem lb:∀ (m:Nat)(r:Rx),r.size≤m→m≤1099511627776→ak Tryz.prog 93 [rx r] (.p (bool (aR r))):=by
 intro m
 induction m with
 | zero=>intro a hr _;have:=size_pos a;omega
 | succ m ih =>
 intro r hr hm;have hkl:=ea r;have hsl:=eA r;rw[ft r];refine cF Yz fun w0 M0 aa=>?_
 refine pW [2,4010] [1,7] [] ?_ ?_<;>intro h1';refine wZ [8014] ?_;rotate_left;refine wS [3006] [1,11] [] ?_ ?_<;>intro h2;refine wZ [8008] ?_;rotate_left;refine wS [3011] [1,14] [] ?_ ?_<;>intro h3;refine wA [5] [1,16] [] ?_;refine oC J J J J (Kp acK) ?_;refine wS [4001] [1,18] [] ?_ ?_<;>intro h4';refine wZ [2,8007] ?_;rotate_left;refine wZ [8010] ?_;rotate_left;refine wA [3] [1] [] ?_;refine ct (fun zs=>∃z:Nat,(aR r=lJ r.kids)∧zs=⟨64,[(1,vvz (wk r))],[]⟩) ?_ ?_;refine wS [4,4002] [1,28] [] ?_ ?_<;>intro h5';refine wZ [8031] ?_;rotate_left;refine wS [4004] [1,28,32] [] ?_ ?_<;>intro h6';refine wS [2,4004] [1,39] [] ?_ ?_<;>intro h7';refine wZ [8020] ?_;rotate_left;refine wS [4004] [1,39,43] [] ?_ ?_<;>intro h8';refine wS [2,3005] [1,49] [] ?_ ?_<;>intro h9;refine wZ [8008] ?_;rotate_left;refine wA [10002] [1] [] ?_;rotate_left;refine wA [10010] [1] [] ?_;rotate_left;refine wS [4011] [1,39,43] [] ?_ ?_<;>intro h10';refine wS [2,3005] [1,49] [] ?_ ?_<;>intro h11;refine wZ [8008] ?_;rotate_left;refine wA [10002] [1] [] ?_;rotate_left;refine wA [10010] [1] [] ?_;rotate_left;rintro zs ⟨z,Sh,rfl⟩;refine wA [7] [1,3] [] ?_;refine lr (fun zl zo zm zs=>∃i:Nat,zm=r.kids.length-i∧(i≤r.kids.length)∧(∀j,j<i→aR (r.kids.getD j default)=true)∧zs=eJ 64 [(3,vvw (int i))] zl [] zo) ?_ ?_;exact⟨_,0,rfl,aan _,fun j hj=>absurd hj acK,rfl⟩;rintro zm zs ⟨i,rfl,aY,aq,rfl⟩;refine wS [6,3003] [1,3,54] [] ?_ ?_<;>intro h12;refine wA [10,1] [1,3,61] [] ?_;refine oC J J J J (ih _ (abf (aaT (ij acK) hr)) acK) ?_;refine wS [3003] [1,3,63] [] ?_ ?_<;>intro h13;refine wZ [8012] ?_;rotate_left;refine wA [6,9002] [1,3] [] ?_;exact⟨_,⟨i+1,rfl,acK,bX aq (by simp_all),rfl⟩,acK⟩;refine wZ [8012] ?_;rotate_left
 all_goals first
  | (
    first|rw[Sh,Gu (i:=i) acK (by simp_all)]|rw[Sh,D0 (fun j hj=>aq j acK)]|(rw[fJ,if_pos acK];done)|(rw[fJ,if_neg acK,if_pos acK];simp_all;done)|(rw[fJ,if_neg acK,if_neg acK,if_pos acK];done);done)
  | (
    exact⟨0,by rw[fJ,if_neg acK,if_neg acK,if_neg acK],rfl⟩;done)
noncomputable def Ba (r:Rx)(w:List Int):Bool:=aR r&&pB (fb r w)
theorem TW {r:Rx}(h:aR r=true):((b9 (w.length+1) (rB w r)).getD 0 default).getD w.length default=Ba r w:=by rw[kM (Nat.succ_pos _),fC (Nat.lt_succ_self _)];unfold Ba rB;rw[h,abm,Tm];refine abU.2 ?_;rw[kE,kE];exact⟨fun q=>q.2,fun q=>⟨aan _,q⟩⟩
abbrev VF:=dF 4 Tryz.func179
theorem qn {r:Rx}(hr:r.size≤1099511627776)(hw:w.length≤1099511627776):ak Tryz.prog 179 [rx r,ints w] (.p (bool (Ba r w))):=by
 have hp:aR r=true→ak Tryz.prog 222 [rx r,ints w] (.p (qj (b9 (w.length+1) (rB w r)))):=fun hv=>by
  have h:=(GY hw _ r (aak _) hr hv).data na;rwa [yl] at h
 have hl1:=cG (w.length+1) (rB w r);have hl2:((b9 (w.length+1) (rB w r)).getD 0 default).length=w.length+1:=by rw[kM (Nat.succ_pos _),bH]
 refine cF VF fun w0 M0 aa=>?_
 refine c4 [2,7] [1,2,5] [] ?_;refine oC J J J J (lb _ r (aak _) hr) ?_;refine wS [3003] [1,2,7] [] ?_ ?_<;>intro h1;refine wZ [8008] ?_;rotate_left;refine wA [7] [1,8,9] [] ?_;refine oC J J J J (hp acN) ?_;refine wZ [0,2,0,8005] ?_;rotate_left
 all_goals
  first
   | (rw[show Ba r w=false from by unfold Ba;simp_all];first|done|rfl)
   | (rw[←TW acN];first|done|rfl)
end Go.Proofs.YtlapahnodhmcpaaGreat
namespace Go.Wb
open Go.Am Go.We
theorem QI (v:List Int):Dv dI v=dI:=by
 have h:∀b,dR b dI=dI:=fun b=>by rw[uK acM (fun e=>absurd e acM),Ce acM acM,k8]
 induction v with
 | nil=>rfl
 | cons b v ih=>show Dv (dR b dI) v=_;rw[h,ih]
end Go.Wb
namespace Go.Proofs.YtlapahnodhmcpaaGreat
open Go.Am Go.Wb Go.We
theorem qo (r:Rx)(w:List Int):sk r w=Ba r w:=by
 unfold Ba;by_cases h:aR r=true
 ·rw[h,abm];exact abU.2 ((lX h w).trans kE.symm)
 ·rw[yj,show dv r=dI from if_neg h,QI,show aR r=false by simpa using h];rfl
end Go.Proofs.YtlapahnodhmcpaaGreat
