/-
  Part of the proof.
-/
import Derived.Test.YtlapahnodhmcpaaGreatJ0
import Derived.Test.YtlapahnodhmcpaaGreatJ16
import Derived.Test.YtlapahnodhmcpaaGreatJ23
import Derived.Test.YtlapahnodhmcpaaGreatJ19
import Derived.Test.YtlapahnodhmcpaaGreatJ14
import Derived.Test.YtlapahnodhmcpaaGreatJ18
set_option linter.unusedVariables false
set_option linter.unusedSectionVars false
set_option linter.unusedSimpArgs false
set_option maxRecDepth 100000
set_option maxHeartbeats 40000000
namespace Go.Proofs.YtlapahnodhmcpaaGreat
open Go.Am Go.We Go.Wb
abbrev UU:=dU 4 Tryz.func222
theorem Gb {w:List Int}(hw:w.length≤1099511627776):∀(z:Nat)(r:Rx),r.size≤z→z≤1099511627776→aQ r=true→xb Tryz.prog 222 [rx r,ints w] 134 (br 4 (b8 (w.length+1) (qQ w r))):=by
 intro z
 induction z with
 | zero=>intro a hr _ _;have:=size_pos a;omega
 | succ z ih =>
 intro r hr hz hv
 have hkl:=dX r
 have hsl:=eA r
 obtain⟨hk1,hk5,hk0⟩:=qG hv
 have hx:∀m,m<r.kids.length→aq Tryz.prog 222 [rx (r.kids.getD m default),ints w] (.p (pN (b8 (w.length+1) (eC w r m)))):=fun m hm=>by
   have h:=(ih _ (aaT (aax (hU hm) hr)) ace (FU hv hm)).data mM
   rwa [xL] at h
 rw[fi r]
 refine nb UU (ZZ J) fun w0 M0 aa=>?_
 refine c6 [2,3] [1,2] [] ?_
 refine ct (fun zs=>zs=⟨192,[(1,vvz (ints w)),(2,vvz (pz r)),(5,.nst 30)],[(30,.nar 134 (br 4 (b8 (w.length+1) (DD (qF r)))) none)]⟩) ?_ ?_
 refine wS [2,4004] [1,2,16,20] [] ?_ ?_<;>intro h1'
 refine wA [9] [1,2,16,29] [] ?_
 refine oS J (lS J J J J J J (mN (n:=w.length) hw) aa) J ?_
 refine wA [10002] [1,2,5] [30] ?_
 rw[Xg ace];try rfl
 refine wS [4005] [1,2,16,25] [] ?_ ?_<;>intro h2'
 refine wA [4] [1,2,16,29] [] ?_
 refine oS J (lS J J J J J J (mN (n:=w.length) hw) aa) J ?_
 refine wA [10002] [1,2,5] [30] ?_
 rw[Xh ace];try rfl
 refine wA [4] [1,2,16,29] [] ?_
 refine oS J (lS J J J J J J (mN (n:=w.length) hw) aa) J ?_
 refine wA [10002] [1,2,5] [30] ?_
 rw[Xi ace ace];try rfl
 rintro zs ⟨rfl⟩
 refine ct (fun zs=>zs=⟨192,[(1,vvz (ints w)),(2,vvz (pz r)),(5,.nst 30)],[(30,.nar 134 (br 4 (b8 (w.length+1) (KF w r 0))) none)]⟩) ?_ ?_
 refine wA [6] [1,2,5,6] [30] ?_
 refine lp (fun zm zs=>∃i:Nat,zm=w.length-i∧(i≤w.length)∧(r.kind≠2→i=0)∧zs=⟨192,[(1,vvz (ints w)),(2,vvz (pz r)),(5,.nst 30),(6,vvw (int i))],[(30,.nar 134 (br 4 (b8 (w.length+1) (f0 w r i))) none)]⟩) ?_ ?_
 refine⟨_,0,rfl,Z5 _,fun _=>rfl,?_⟩
 rw[MA];try rfl
 rintro zm zs ⟨i,rfl,aZ,au,rfl⟩
 refine wS [5,4002] [1,2,5,6,35] [30] ?_ ?_<;>intro h3'
 refine wS [3006] [1,2,5,6,39] [30] ?_ ?_<;>intro h4
 refine wA [6] [1,2,5,6] [30] ?_
 have hk2:r.kind=2:=ace
 refine qn 30 200 aa J J J (wg (N:=(w.length+1)) (f:=f0 w r i) (i:=i) ace) ?_
 refine gS [5] [1,2,5,6,7] [30,200] ?_
 refine lp (fun zm zs=>∃k:Nat,zm=r.syms.length-k∧(k≤r.syms.length)∧zs=⟨192,[(1,vvz (ints w)),(2,vvz (pz r)),(5,.nst 30),(6,vvw (int i)),(7,vvw (int k))],[(30,.nar 134 (br 4 (b8 (w.length+1) (f0 w r i))) (some (i,.arr 200))),(200,.arr 4 ((fM (w.length+1) (DK w r.syms i k)).map bool))]⟩) ?_ ?_
 refine⟨_,0,rfl,Z5 _,?_⟩
 rw[show fM (w.length+1) (f0 w r i i)=fM (w.length+1) (DK w r.syms i 0) from ij fun l _=>by rw[BE hk2,My,Jn]];try rfl
 rintro zm zs ⟨k,rfl,fU,rfl⟩
 refine wS [6,3003] [1,2,5,6,7,46] [30,200] ?_ ?_<;>intro h5
 refine wA [2005,2] [1,2,5,6,7,49,50] [30,200] ?_
 refine oD J J J (c9 J Tryz.underlying289 mM J J J (by rw[cB,cG];omega)) ?_
 refine oD J J J (da J ke J J) ?_
 refine wA [6001,2] [1,2,5,6,7,52,54,55,56] [30,200] ?_
 refine oD J J J (c9 J Tryz.underlying289 mM J J J (by rw[cB,cG];omega)) ?_
 refine oD J J J (da J ke J J) ?_
 refine wZ [6001,5000] ?_
 refine oD J J J (aD J Tryz.underlying134 j4 J J J (by rw[Z0,bH];omega)) ?_
 refine oD J J J (e9 J Rp J J (ix (by rw[bH];omega)) J) ?_
 refine wS [7001] [1,2,5,6,7,52,54,63] [30,200] ?_ ?_<;>intro h6'
 refine wA [11] [1,2,5,6,7,52,54,74] [30,200] ?_
 refine oD J J J (aD J Tryz.underlying134 j4 J J J (by rw[Z0,bH];omega)) ?_
 refine c7 acf ?_
 refine ea J (ay J J J j4 J J (ix (by rw[bH];omega)) J J (.inl J) J (ZZ J) aa) ?_
 refine fZ ?_
 refine jl [4,9002] [1,2,5,6,7] [30,200] ?_
 refine⟨_,⟨k+1,rfl,ace,?_⟩,ace⟩
 rw [← jZ (N := (w.length + 1)) (g := DK w r.syms i k) (v := true) (g' := DK w r.syms i (k + 1)) (j := i + 1) ace fun l hl => by
     rw[DL ace,show DK w r.syms i k (i+1)=true from(fp (N:=(w.length+1)) ace).symm.trans ach];rfl]
 try rfl
 refine wA [6003,6003,3] [1,2,5,6,7,52,54,74] [30,200] ?_
 refine oD J J J (aD J Tryz.underlying134 j4 J J J (by rw[Z0,bH];omega)) ?_
 refine c7 acf ?_
 refine ea J (ay J J J j4 J J (ix (by rw[bH];omega)) J J (.inl J) J (ZZ J) aa) ?_
 refine fZ ?_
 refine jl [4,9002] [1,2,5,6,7] [30,200] ?_
 refine⟨_,⟨k+1,rfl,ace,?_⟩,ace⟩
 rw [← jZ (N := (w.length + 1)) (g := DK w r.syms i k) (v := decide (r.syms.getD k default = w.getD i default)) (g' := DK w r.syms i (k + 1)) (j := i + 1) ace fun l hl => by
     rw[DL ace,show DK w r.syms i k (i+1)=false from(fp (N:=(w.length+1)) ace).symm.trans ach];rfl]
 try rfl
 refine wA [7] [1,2,5,6] [30,200] ?_
 obtain rfl:k=r.syms.length:=ace
 refine kB 30 200 aa J J (by rw[cB,cG];omega) J ?_
 refine gS [2,9002] [1,2,5,6] [30] ?_
 refine⟨_,⟨i+1,rfl,ace,fun q=>absurd hk2 q,?_⟩,ace⟩
 rw [qE (N := (w.length + 1)) (f := f0 w r i) (g := DK w r.syms i r.syms.length) (i := i) (f' := f0 w r (i + 1)) ace fun k l hk hl => by
     rw[BE hk2,BE hk2,Mz,Pn (Z1 _)]]
 try rfl
 refine wA [10005] [1,2,5] [30] ?_;rotate_left
 refine wA [10011] [1,2,5] [30] ?_;rotate_left
 rintro zs ⟨rfl⟩
 refine wA [7] [1,2,5,8] [30] ?_
 refine lp (fun zm zs=>∃m:Nat,zm=r.kids.length-m∧(m≤r.kids.length)∧zs=⟨192,[(1,vvz (ints w)),(2,vvz (pz r)),(5,.nst 30),(8,vvw (int m))],[(30,.nar 134 (br 4 (b8 (w.length+1) (KF w r m))) none)]⟩) ?_ ?_
 exact⟨_,0,rfl,Z5 _,rfl⟩
 rintro zm zs ⟨m,rfl,Nl,rfl⟩
 refine wS [6,3003] [1,2,5,8,80] [30] ?_ ?_<;>intro h7
 refine wA [10,2] [1,2,5,8,87,88] [30] ?_
 refine oC J J J J (hx m ace) ?_
 refine wA [3] [1,2,5,8,9] [30] ?_
 refine ct (fun zs=>zs=⟨192,[(1,vvz (ints w)),(2,vvz (pz r)),(5,.nst 30),(8,vvw (int m)),(9,vvw (pN (b8 (w.length+1) (eC w r m))))],[(30,.nar 134 (br 4 (b8 (w.length+1) (f1 w r m))) none)]⟩) ?_ ?_
 refine wS [3007] [1,2,5,8,9,92] [30] ?_ ?_<;>intro h8
 refine wA [1] [1,2,5,8,9] [30] ?_
 refine Fv 5 aa J J J mM ?_
 refine aS 192 [(1,_),(2,_),(5,_),(8,_),(9,_)] [] aa J ⟨.inl J,.inl J,.inr ⟨_,_,rfl,rfl,rfl⟩,.inl J,.inl J,trivial⟩ trivial ?_
 rw[xL]
 refine gS [3] [1,2,8,9,93,94] [] ?_
 refine oS J (lS J J J J J J (BW (n:=w.length) (a:=KF w r m) (b:=(eC w r m)) hw) aa) J ?_
 refine wA [1] [1,2,5,8,9] [95] ?_
 refine O0 5 30 aa J J J J ?_
 refine WH [10001] [1,2,5,8,9] [30] ?_
 rw[Xj ace ace];try rfl
 refine wA [10002] [1,2,5,8,9] [30] ?_
 rw[Un ace];try rfl
 rintro zs ⟨rfl⟩
 refine ct (fun zs=>zs=⟨192,[(1,vvz (ints w)),(2,vvz (pz r)),(5,.nst 30),(8,vvw (int m)),(9,vvw (pN (b8 (w.length+1) (eC w r m))))],[(30,.nar 134 (br 4 (b8 (w.length+1) (f2 w r m))) none)]⟩) ?_ ?_
 refine wA [6] [1,2,5,8,9,10] [30] ?_
 have hm:m<r.kids.length:=ace
 refine lp (fun zm zs=>∃i:Nat,zm=(w.length+1)-i∧(i≤(w.length+1))∧(r.kind≠4→i=0)∧zs=⟨192,[(1,vvz (ints w)),(2,vvz (pz r)),(5,.nst 30),(8,vvw (int m)),(9,vvw (pN (b8 (w.length+1) (eC w r m)))),(10,vvw (int i))],[(30,.nar 134 (br 4 (b8 (w.length+1) (a4 w r m i))) none)]⟩) ?_ ?_
 refine⟨_,0,rfl,Z5 _,fun _=>rfl,?_⟩
 rw[MB];try rfl
 rintro zm zs ⟨i,rfl,Rz,Y8,rfl⟩
 have hrl:(br 4 (b8 (w.length+1) (a4 w r m i))).length=(w.length+1):=by rw[cB,cG]
 refine wS [5,4002] [1,2,5,8,9,10,100] [30] ?_ ?_<;>intro h9'
 refine wS [3006] [1,2,5,8,9,10,104] [30] ?_ ?_<;>intro h10
 refine wA [6] [1,2,5,8,9,10] [30] ?_
 have hk4:r.kind=4:=ace
 refine qn 30 200 aa J J J (wg (N:=(w.length+1)) (f:=a4 w r m i) (i:=i) ace) ?_
 refine gS [5] [1,2,5,8,9,10,11] [30,200] ?_
 refine lp (fun zm zs=>∃k:Nat,zm=(w.length+1)-k∧(k≤(w.length+1))∧zs=⟨192,[(1,vvz (ints w)),(2,vvz (pz r)),(5,.nst 30),(8,vvw (int m)),(9,vvw (pN (b8 (w.length+1) (eC w r m)))),(10,vvw (int i)),(11,vvw (int k))],[(30,.nar 134 (br 4 (b8 (w.length+1) (a4 w r m i))) (some (i,.arr 200))),(200,.arr 4 ((fM (w.length+1) (DH (KF w r m) (eC w r m) i k)).map bool))]⟩) ?_ ?_
 refine⟨_,0,rfl,Z5 _,?_⟩
 rw[show fM (w.length+1) (a4 w r m i i)=fM (w.length+1) (DH (KF w r m) (eC w r m) i 0) from ij fun l _=>by rw[wh hk4,Ms,Jj]];try rfl
 rintro zm zs ⟨k,rfl,Ao,rfl⟩
 have hrl2:(br 4 (b8 (w.length+1) (a4 w r m i))).length=(w.length+1):=by rw[cB,cG]
 refine wS [5,3003] [1,2,5,8,9,10,11,110] [30,200] ?_ ?_<;>intro h11
 refine wA [2005,2] [1,2,5,8,9,10,11,113,114] [30,200] ?_
 refine oD J J J (c9 J Tryz.underlying289 mM J J J (by rw[cB,cG];omega)) ?_
 refine oD J J J (da J ke J J) ?_
 refine wA [3] [1,2,5,8,9,10,11,116,117,118,119] [30,200] ?_
 refine oD J J J (c9 J Tryz.underlying289 mM J J J (by rw[cB,cG];omega)) ?_
 refine oD J J J (da J ke J J) ?_
 refine wA [1] [1,2,5,8,9,10,11,116,117,121,122] [30,200] ?_
 refine oD J J J (aD J Tryz.underlying134 j4 J J J (by rw[Z0,bH];omega)) ?_
 refine oD J J J (e9 J Rp J J (ix (by rw[bH];omega)) J) ?_
 refine wS [7001] [1,2,5,8,9,10,11,116,117,125] [30,200] ?_ ?_<;>intro h12'
 refine wA [8] [1,2,5,8,9,10,11,116,117,133] [30,200] ?_
 refine oD J J J (aD J Tryz.underlying134 j4 J J J (by rw[Z0,bH];omega)) ?_
 refine c7 acf ?_
 refine ea J (ay J J J j4 J J (ix (by rw[bH];omega)) J J (.inl J) J (ZZ J) aa) ?_
 refine fZ ?_
 refine jl [4,9002] [1,2,5,8,9,10,11] [30,200] ?_
 refine⟨_,⟨k+1,rfl,ace,?_⟩,ace⟩
 rw [← jZ (N := (w.length + 1)) (g := DH (KF w r m) (eC w r m) i k) (v := true) (g' := DH (KF w r m) (eC w r m) i (k + 1)) (j := k) ace fun l hl => by
     rw[DI,show DH (KF w r m) (eC w r m) i k k=true from(fp (N:=(w.length+1)) ace).symm.trans ach];rfl]
 try rfl
 refine wA [2] [1,2,5,8,9,10,11,116,117,125,126,127] [30,200] ?_
 refine oD J J J (ee J Tryz.underlying289 mM J J (by rw[cG];omega) (fun _=>rfl)) ?_
 refine wA [2] [1,2,5,8,9,10,11,116,117,125,129,130] [30,200] ?_
 refine oD J J J (ee J Tryz.underlying134 j4 J J (by(try simp only[abl]);rw[kE ace,bH];omega) (fun _=>rfl)) ?_
 refine wA [2] [1,2,5,8,9,10,11,116,117,133] [30,200] ?_
 refine oD J J J (aD J Tryz.underlying134 j4 J J J (by rw[Z0,bH];omega)) ?_
 refine c7 acf ?_
 refine ea J (ay J J J j4 J J (ix (by rw[bH];omega)) J J (.inl J) J (ZZ J) aa) ?_
 refine fZ ?_
 refine jl [4,9002] [1,2,5,8,9,10,11] [30,200] ?_
 refine⟨_,⟨k+1,rfl,ace,?_⟩,ace⟩
 have e:((b8 (w.length+1) (eC w r m)).getD i default).getD k default=(eC w r m) i k:=by rw[kE ace,fp ace]
 rw [← jZ (N := (w.length + 1)) (g := DH (KF w r m) (eC w r m) i k) (v := ((b8 (w.length + 1) (eC w r m)).getD i default).getD k default) (g' := DH (KF w r m) (eC w r m) i (k + 1)) (j := k) ace fun l hl => by
     rw[e,DI,show DH (KF w r m) (eC w r m) i k k=false from(fp (N:=(w.length+1)) ace).symm.trans ach];rfl]
 try rfl
 refine wA [7] [1,2,5,8,9,10] [30,200] ?_
 obtain rfl:k=(w.length+1):=ace
 refine kB 30 200 aa J J (by rw[cB,cG];omega) J ?_
 refine gS [2,9002] [1,2,5,8,9,10] [30] ?_
 refine⟨_,⟨i+1,rfl,ace,fun q=>absurd hk4 q,?_⟩,ace⟩
 rw [qE (N := (w.length + 1)) (f := a4 w r m i) (g := DH (KF w r m) (eC w r m) i (w.length + 1)) (i := i) (f' := a4 w r m (i + 1)) ace fun k l hk hl => by
     rw[wh hk4,wh hk4,Mt,Ph hl]]
 try rfl
 refine wA [10005] [1,2,5,8,9] [30] ?_;rotate_left
 refine wA [10011] [1,2,5,8,9] [30] ?_;rotate_left
 rintro zs ⟨rfl⟩
 have hm:m<r.kids.length:=ace
 refine wA [6] [1,2,5,8,9,12] [30] ?_
 refine lp (fun zm zs=>∃i:Nat,zm=(w.length+1)-i∧(i≤(w.length+1))∧(r.kind≠5→i=0)∧zs=⟨192,[(1,vvz (ints w)),(2,vvz (pz r)),(5,.nst 30),(8,vvw (int m)),(9,vvw (pN (b8 (w.length+1) (eC w r m)))),(12,vvw (int i))],[(30,.nar 134 (br 4 (b8 (w.length+1) (a6 w r m i))) none)]⟩) ?_ ?_
 refine⟨_,0,rfl,Z5 _,fun _=>rfl,?_⟩
 rw[MC hk5 hm];try rfl
 rintro zm zs ⟨i,rfl,Y9,Za,rfl⟩
 have hrl:(br 4 (b8 (w.length+1) (a6 w r m i))).length=(w.length+1):=by rw[cB,cG]
 refine wS [5,4002] [1,2,5,8,9,12,139] [30] ?_ ?_<;>intro h13'
 refine wS [3006] [1,2,5,8,9,12,143] [30] ?_ ?_<;>intro h14
 refine wA [6] [1,2,5,8,9,12] [30] ?_
 have hk55:r.kind=5:=ace
 refine qn 30 200 aa J J J (wg (N:=(w.length+1)) (f:=a6 w r m i) (i:=i) ace) ?_
 refine gS [6] [1,2,5,8,9,12,13] [30,200] ?_
 refine lp (fun zm zs=>∃k:Nat,zm=(w.length+1)-k∧(i≤k)∧(k≤(w.length+1))∧zs=⟨192,[(1,vvz (ints w)),(2,vvz (pz r)),(5,.nst 30),(8,vvw (int m)),(9,vvw (pN (b8 (w.length+1) (eC w r m)))),(12,vvw (int i)),(13,vvw (int k))],[(30,.nar 134 (br 4 (b8 (w.length+1) (a6 w r m i))) (some (i,.arr 200))),(200,.arr 4 ((fM (w.length+1) (pO (eC w r m) i k)).map bool))]⟩) ?_ ?_
 refine⟨_,i,rfl,Z1 _,ace,?_⟩
 rw[show fM (w.length+1) (a6 w r m i i)=fM (w.length+1) (pO (eC w r m) i i) from ij fun l _=>by rw[wi hk55,Mw,Rf (Z1 i)]];try rfl
 rintro zm zs ⟨k,rfl,Zb,Zc,rfl⟩
 have hrl2:(br 4 (b8 (w.length+1) (a6 w r m i))).length=(w.length+1):=by rw[cB,cG]
 refine wS [5,3003] [1,2,5,8,9,12,13,150] [30,200] ?_ ?_<;>intro h15
 refine wA [12] [1,2,5,8,9,12,13,14] [30,200] ?_
 refine lp (fun zm zs=>∃j:Nat,zm=(w.length+1)-j∧(k≤j)∧(j≤(w.length+1))∧zs=⟨192,[(1,vvz (ints w)),(2,vvz (pz r)),(5,.nst 30),(8,vvw (int m)),(9,vvw (pN (b8 (w.length+1) (eC w r m)))),(12,vvw (int i)),(13,vvw (int k)),(14,vvw (int j))],[(30,.nar 134 (br 4 (b8 (w.length+1) (a6 w r m i))) (some (i,.arr 200))),(200,.arr 4 ((fM (w.length+1) (yK (eC w r m) i k j)).map bool))]⟩) ?_ ?_
 refine⟨_,k,rfl,Z1 _,ace,?_⟩
 rw[show fM (w.length+1) (pO (eC w r m) i k)=fM (w.length+1) (yK (eC w r m) i k k) from ij fun l _=>Jl.symm];try rfl
 rintro zm zs ⟨j,rfl,Zd,Ze,rfl⟩
 have hrl3:(br 4 (b8 (w.length+1) (a6 w r m i))).length=(w.length+1):=by rw[cB,cG]
 refine wS [5,4002] [1,2,5,8,9,12,13,14,158] [30,200] ?_ ?_<;>intro h16'
 refine wA [2] [1,2,5,8,9,12,13,14,158,159,160] [30,200] ?_
 refine oP J (c9 J Tryz.underlying289 mM J J J (by rw[cB,cG];omega)) ?_
 refine oP J (da J ke J J) ?_
 refine wA [1] [1,2,5,8,9,12,13,14,158,162,163] [30,200] ?_
 refine oP J (aD J Tryz.underlying134 j4 J J J (by rw[Z0,bH];omega)) ?_
 refine oP J (e9 J Rp J J (ix (by rw[bH];omega)) J) ?_
 refine wS [3003] [1,2,5,8,9,12,13,14,166] [30,200] ?_ ?_<;>intro h17
 refine wA [2005,2] [1,2,5,8,9,12,13,14,169,170] [30,200] ?_
 refine oD J J J (c9 J Tryz.underlying289 mM J J J (by rw[cB,cG];omega)) ?_
 refine oD J J J (da J ke J J) ?_
 refine wA [3] [1,2,5,8,9,12,13,14,172,173,174,175] [30,200] ?_
 refine oD J J J (c9 J Tryz.underlying289 mM J J J (by rw[cB,cG];omega)) ?_
 refine oD J J J (da J ke J J) ?_
 refine wA [1] [1,2,5,8,9,12,13,14,172,173,177,178] [30,200] ?_
 refine oD J J J (aD J Tryz.underlying134 j4 J J J (by rw[Z0,bH];omega)) ?_
 refine oD J J J (e9 J Rp J J (ix (by rw[bH];omega)) J) ?_
 refine wS [7001] [1,2,5,8,9,12,13,14,172,173,181] [30,200] ?_ ?_<;>intro h18'
 refine wA [8] [1,2,5,8,9,12,13,14,172,173,189] [30,200] ?_
 refine oD J J J (aD J Tryz.underlying134 j4 J J J (by rw[Z0,bH];omega)) ?_
 refine c7 acf ?_
 refine ea J (ay J J J j4 J J (ix (by rw[bH];omega)) J J (.inl J) J (ZZ J) aa) ?_
 refine fZ ?_
 refine jl [4,9002] [1,2,5,8,9,12,13,14] [30,200] ?_
 refine⟨_,⟨j+1,rfl,ace,ace,?_⟩,ace⟩
 have ha:pO (eC w r m) i k k=true:=Mv.symm.trans ((fp (N:=(w.length+1)) (g:=yK (eC w r m) i k j) (j:=k) ace).symm.trans ach)
 rw [← jZ (N := (w.length + 1)) (g := yK (eC w r m) i k j) (v := true) (g' := yK (eC w r m) i k (j + 1)) (j := j) ace fun l hl => by
     rw[DJ ace ha,show yK (eC w r m) i k j j=true from(fp (N:=(w.length+1)) ace).symm.trans ach];rfl]
 try rfl
 refine wA [2] [1,2,5,8,9,12,13,14,172,173,181,182,183] [30,200] ?_
 refine oD J J J (ee J Tryz.underlying289 mM J J (by rw[cG];omega) (fun _=>rfl)) ?_
 refine wA [2] [1,2,5,8,9,12,13,14,172,173,181,185,186] [30,200] ?_
 refine oD J J J (ee J Tryz.underlying134 j4 J J (by(try simp only[abl]);rw[kE ace,bH];omega) (fun _=>rfl)) ?_
 refine wA [2] [1,2,5,8,9,12,13,14,172,173,189] [30,200] ?_
 refine oD J J J (aD J Tryz.underlying134 j4 J J J (by rw[Z0,bH];omega)) ?_
 refine c7 acf ?_
 refine ea J (ay J J J j4 J J (ix (by rw[bH];omega)) J J (.inl J) J (ZZ J) aa) ?_
 refine fZ ?_
 refine jl [4,9002] [1,2,5,8,9,12,13,14] [30,200] ?_
 refine⟨_,⟨j+1,rfl,ace,ace,?_⟩,ace⟩
 have ha:pO (eC w r m) i k k=true:=Mv.symm.trans ((fp (N:=(w.length+1)) (g:=yK (eC w r m) i k j) (j:=k) ace).symm.trans ach)
 have e:((b8 (w.length+1) (eC w r m)).getD k default).getD j default=(eC w r m) k j:=by rw[kE ace,fp ace]
 rw [← jZ (N := (w.length + 1)) (g := yK (eC w r m) i k j) (v := ((b8 (w.length + 1) (eC w r m)).getD k default).getD j default) (g' := yK (eC w r m) i k (j + 1)) (j := j) ace fun l hl => by
     rw[e,DJ ace ha,show yK (eC w r m) i k j j=false from(fp (N:=(w.length+1)) ace).symm.trans ach];rfl]
 try rfl
 refine wA [9,9002] [1,2,5,8,9,12,13] [30,200] ?_;rotate_left
 refine wA [19,9002] [1,2,5,8,9,12,13] [30,200] ?_;rotate_left
 refine wA [7] [1,2,5,8,9,12] [30,200] ?_
 obtain rfl:k=(w.length+1):=ace
 refine kB 30 200 aa J J (by rw[cB,cG];omega) J ?_
 refine gS [2,9002] [1,2,5,8,9,12] [30] ?_
 refine⟨_,⟨i+1,rfl,ace,fun q=>absurd hk55 q,?_⟩,ace⟩
 rw [qE (N := (w.length + 1)) (f := a6 w r m i) (g := pO (eC w r m) i (w.length + 1)) (i := i) (f' := a6 w r m (i + 1)) ace fun k l hk hl => by
     rw[wi hk55,wi hk55,Mx]]
 try rfl
 refine wA [9,9002] [1,2,5,8] [30] ?_;rotate_left
 refine wA [15,9002] [1,2,5,8] [30] ?_;rotate_left
 refine wZ [13] ?_
 refine xc J J ?_
 obtain rfl:m=r.kids.length:=ace
 rw[SH hv]
 all_goals first
  | (
    rw[SD hk1 ach (fun q=>by omega)];try rfl;done)
  | (
    rw[SE hm ach (fun q=>by omega)];try rfl;done)
  | (
    refine⟨_,⟨k+1,rfl,ace,ace,?_⟩,ace⟩
    rw[show fM (w.length+1) (yK (eC w r m) i k j)=fM (w.length+1) (pO (eC w r m) i (k+1)) from ij fun l hl=>Pk ace (by first|exact .inl ace|exact .inr (Mv.symm.trans ((fp (N:=(w.length+1)) ace).symm.trans ach)))];try rfl;done)
  | (
    refine⟨_,⟨m+1,rfl,ace,?_⟩,ace⟩
    rw[SF hv hm ach (fun q=>by omega)];try rfl;done)
abbrev UW:=dU 4 Tryz.func231
theorem cS {a b:Int}:aq Tryz.prog 231 [int a,int b] (.p (int (bQ a b))):=by
 refine cF UW fun w0 M0 aa=>?_
 refine rM [3013] [0,1,7] [] ?_ ?_<;>intro h1
 refine wZ [8008] ?_;rotate_left
 refine wS [3011] [10] [] ?_ ?_<;>intro h2
 refine wZ [8008] ?_;rotate_left
 refine wZ [8009] ?_;rotate_left
 all_goals
  unfold bQ;(repeat' split)<;>first|rfl|omega
abbrev UX:=dU 2 Tryz.func197
theorem DZ {l:List Int}(hl:l.length≤9223372036854775807):aq Tryz.prog 197 [ints l] (.p (bool (jS l))):=by
 refine cF UX fun w0 M0 aa=>?_
 refine c6 [9,4] [0,5,6,7] [] ?_
 refine lp (fun zm zs=>∃k:Nat,zm=l.length-k∧(k≤l.length)∧(∀j,j<k→vM l j)∧zs=⟨35,[(0,vvz (ints l)),(5,vvz (ints l)),(6,vvw (int l.length)),(7,vvw (int k))],[]⟩) ?_ ?_
 exact⟨_,0,rfl,Z5 _,fun j hj=>absurd hj ace,rfl⟩
 rintro zm zs ⟨k,rfl,aZ,au,rfl⟩
 refine wS [3006] [0,5,6,7,8] [] ?_ ?_<;>intro h1
 refine wS [8,4010] [0,3,4,5,6,7,14] [] ?_ ?_<;>intro h2'
 refine wZ [8030] ?_;rotate_left
 refine wS [4004] [0,3,4,5,6,7,18] [] ?_ ?_<;>intro h3'
 refine wZ [8026] ?_;rotate_left
 refine wS [4003] [0,3,4,5,6,7,18,21] [] ?_ ?_<;>intro h4'
 refine wS [3,0,3006] [0,5,6,7,30] [] ?_ ?_<;>intro h5
 refine wZ [8012] ?_;rotate_left
 refine wA [5,9002] [0,5,6,7] [] ?_;rotate_left
 refine wA [16,9002] [0,5,6,7] [] ?_;rotate_left
 refine wZ [9,8005] ?_
 rw[zN (fun j hj=>au j ace)];exact congrArg (fun b=>RV.p (bool b)) (decide_eq_decide.2 ace)
 all_goals first
  | (
    rw[←De (l:=l) (k:=k) ace (fun q=>by obtain⟨q1,q2,q3⟩:=q;omega)];done)
  | (
    exact⟨_,⟨k+1,rfl,ace,b7 au ⟨ace,ace,fun _=>ace⟩,rfl⟩,ace⟩;done)
abbrev UY:=dU 2 Tryz.func136
theorem JG {l:List Int}(hl:l.length≤9223372036854775807):aq Tryz.prog 136 [ints l] (.p (bool (jS l))):=by
 refine cF UY fun w0 M0 aa=>?_
 refine c6 [12] [0,3] [] ?_
 refine lp (fun zm zs=>∃k:Nat,zm=l.length-k∧(k≤l.length)∧(∀j,j<k→vM l j)∧zs=⟨41,[(0,vvz (ints l)),(3,vvw (int k))],[]⟩) ?_ ?_
 exact⟨_,0,rfl,Z5 _,fun j hj=>absurd hj ace,rfl⟩
 rintro zm zs ⟨k,rfl,aZ,au,rfl⟩
 refine wS [5,3003] [0,3,7] [] ?_ ?_<;>intro h1
 refine wS [2006,6002,7003] [0,3,15] [] ?_ ?_<;>intro h2'
 refine wZ [8036] ?_;rotate_left
 refine wS [6002,7004] [0,3,22] [] ?_ ?_<;>intro h3'
 refine wZ [8029] ?_;rotate_left
 refine wS [7003] [0,3,22,25] [] ?_ ?_<;>intro h4'
 refine wS [6002,6003,6000,3006] [0,3,37] [] ?_ ?_<;>intro h5
 refine wZ [8012] ?_;rotate_left
 refine wA [6,9002] [0,3] [] ?_;rotate_left
 refine wA [20,9002] [0,3] [] ?_;rotate_left
 refine wZ [9,8005] ?_
 rw[zN (fun j hj=>au j ace)];exact congrArg (fun b=>RV.p (bool b)) (decide_eq_decide.2 ace)
 all_goals first
  | (
    rw[←De (l:=l) (k:=k) ace (fun q=>by obtain⟨q1,q2,q3⟩:=q;omega)];done)
  | (
    exact⟨_,⟨k+1,rfl,ace,b7 au ⟨ace,ace,fun _=>ace⟩,rfl⟩,ace⟩;done)
abbrev UZ:=dU 4 Tryz.func193
theorem ri:∀ (m:Nat)(a b:Rx),a.size≤m→m≤1099511627776→b.size≤1099511627776→aq Tryz.prog 193 [rx a,rx b] (.p (int (de a b))):=by
 intro m
 induction m with
 | zero=>intro a _ hr _ _;have:=size_pos a;omega
 | succ m ih =>
 intro a b hr hm hbs
 have hkl:=dX a
 have hkl2:=dX b
 have hsl:=eA a
 have hsl2:=eA b
 rw[fi a,fi b]
 refine cF UZ fun w0 M0 aa=>?_
 refine c6 [2,0,9] [2,3,9,11] [] ?_
 refine oC J J J J (cS) ?_
 refine wA [10] [2,3,5,6] [] ?_
 refine lp (fun zm zs=>∃(i:Nat)(c:Int),zm=a.syms.length-i∧(i≤a.syms.length)∧(i≤b.syms.length)∧(nr (bQ a.kind b.kind) (bB a.syms b.syms)=nr c (bB (a.syms.drop i) (b.syms.drop i)))∧zs=⟨90,[(2,vvz (pz a)),(3,vvz (pz b)),(5,vvw (int c)),(6,vvw (int i))],[]⟩) ?_ ?_
 exact⟨_,0,_,rfl,Z5 _,Z5 _,rfl,rfl⟩
 rintro zm zs ⟨i,c,rfl,aZ,au,cX,rfl⟩
 refine wS [6,4002] [2,3,5,6,18] [] ?_ ?_<;>intro h1'
 refine wS [3,4003] [2,3,5,6,25] [] ?_ ?_<;>intro h2'
 refine wS [3005] [2,3,5,6,28] [] ?_ ?_<;>intro h3
 refine wA [2005,6003,6004,1] [2,3,6,35,40] [] ?_
 refine oE J J J J J J (cS) ?_
 refine wA [6,9002] [2,3,5,6] [] ?_
 exact⟨_,⟨i+1,_,rfl,ace,ace,LQ cX ace ace ace,rfl⟩,ace⟩
 refine wA [6] [2,3,5] [] ?_
 refine ct (fun zs=>∃z:Int,(z=nr (bQ a.kind b.kind) (bB a.syms b.syms))∧zs=⟨90,[(2,vvz (pz a)),(3,vvz (pz b)),(5,vvw (int z))],[]⟩) ?_ ?_
 refine wS [3006] [2,3,5,43] [] ?_ ?_<;>intro h4
 refine wZ [4,2,5000] ?_
 refine oC J J J J (cS) ?_
 refine wA [10002] [2,3,5] [] ?_;rotate_left
 refine wA [10002] [2,3,5] [] ?_;rotate_left
 rintro zs ⟨z,vo,rfl⟩
 refine wA [7] [2,3,5,7] [] ?_
 refine lp (fun zm zs=>∃(i:Nat)(c:Int),zm=a.kids.length-i∧(i≤a.kids.length)∧(i≤b.kids.length)∧(de a b=nr c (cE (a.kids.drop i) (b.kids.drop i)))∧zs=⟨90,[(2,vvz (pz a)),(3,vvz (pz b)),(5,vvw (int c)),(7,vvw (int i))],[]⟩) ?_ ?_
 exact⟨_,0,_,rfl,Z5 _,Z5 _,by rw[vo];exact sS a b,rfl⟩
 rintro zm zs ⟨i,c,rfl,fU,fW,mO,rfl⟩
 refine wS [6,4002] [2,3,5,7,56] [] ?_ ?_<;>intro h5'
 refine wS [3,4003] [2,3,5,7,63] [] ?_ ?_<;>intro h6'
 refine wS [3005] [2,3,5,7,66] [] ?_ ?_<;>intro h7
 refine wA [2005,6003,6004,1] [2,3,7,73,78] [] ?_
 refine oE J J J J J J (ih _ _ (aaT (aax (hU ace) hr)) ace (aau (Nat.le_of_lt (hU ace)) hbs)) ?_
 refine wA [6,9002] [2,3,5,7] [] ?_;rotate_left
 refine wS [3013] [2,3,5,81] [] ?_ ?_<;>intro h8
 refine wZ [4,2,5000] ?_
 refine oC J J J J (cS) ?_
 refine wZ [8010] ?_;rotate_left
 refine wZ [8010] ?_;rotate_left
 refine wS [3018] [2,3,5,81] [] ?_ ?_<;>intro h9
 refine wZ [4,2,5000] ?_
 refine oC J J J J (cS) ?_
 refine wZ [8010] ?_;rotate_left
 refine wZ [8010] ?_;rotate_left
 refine wS [3025] [2,3,5,81] [] ?_ ?_<;>intro h10
 refine wZ [4,2,5000] ?_
 refine oC J J J J (cS) ?_
 refine wZ [8010] ?_;rotate_left
 refine wZ [8010] ?_;rotate_left
 refine wA [11] [2,3,5] [] ?_
 refine ct (fun zs=>∃z:Int,(z=nr (bQ a.kind b.kind) (bB a.syms b.syms))∧zs=⟨90,[(2,vvz (pz a)),(3,vvz (pz b)),(5,vvw (int z))],[]⟩) ?_ ?_
 refine wS [3006] [2,3,5,43] [] ?_ ?_<;>intro h11
 refine wZ [4,2,5000] ?_
 refine oC J J J J (cS) ?_
 refine wA [10002] [2,3,5] [] ?_;rotate_left
 refine wA [10002] [2,3,5] [] ?_;rotate_left
 rintro zs ⟨z,vo,rfl⟩
 refine wA [7] [2,3,5,7] [] ?_
 refine lp (fun zm zs=>∃(i:Nat)(c:Int),zm=a.kids.length-i∧(i≤a.kids.length)∧(i≤b.kids.length)∧(de a b=nr c (cE (a.kids.drop i) (b.kids.drop i)))∧zs=⟨90,[(2,vvz (pz a)),(3,vvz (pz b)),(5,vvw (int c)),(7,vvw (int i))],[]⟩) ?_ ?_
 exact⟨_,0,_,rfl,Z5 _,Z5 _,by rw[vo];exact sS a b,rfl⟩
 rintro zm zs ⟨i,c,rfl,fU,fW,mO,rfl⟩
 refine wS [6,4002] [2,3,5,7,56] [] ?_ ?_<;>intro h12'
 refine wS [3,4003] [2,3,5,7,63] [] ?_ ?_<;>intro h13'
 refine wS [3005] [2,3,5,7,66] [] ?_ ?_<;>intro h14
 refine wA [2005,6003,6004,1] [2,3,7,73,78] [] ?_
 refine oE J J J J J J (ih _ _ (aaT (aax (hU ace) hr)) ace (aau (Nat.le_of_lt (hU ace)) hbs)) ?_
 refine wA [6,9002] [2,3,5,7] [] ?_;rotate_left
 refine wS [3013] [2,3,5,81] [] ?_ ?_<;>intro h15
 refine wZ [4,2,5000] ?_
 refine oC J J J J (cS) ?_
 refine wZ [8010] ?_;rotate_left
 refine wZ [8010] ?_;rotate_left
 refine wS [3018] [2,3,5,81] [] ?_ ?_<;>intro h16
 refine wZ [4,2,5000] ?_
 refine oC J J J J (cS) ?_
 refine wZ [8010] ?_;rotate_left
 refine wZ [8010] ?_;rotate_left
 refine wS [3025] [2,3,5,81] [] ?_ ?_<;>intro h17
 refine wZ [4,2,5000] ?_
 refine oC J J J J (cS) ?_
 refine wZ [8010] ?_;rotate_left
 refine wZ [8010] ?_;rotate_left
 refine wA [18] [2,3,5] [] ?_
 refine ct (fun zs=>∃z:Int,(z=nr (bQ a.kind b.kind) (bB a.syms b.syms))∧zs=⟨90,[(2,vvz (pz a)),(3,vvz (pz b)),(5,vvw (int z))],[]⟩) ?_ ?_
 refine wS [3006] [2,3,5,43] [] ?_ ?_<;>intro h18
 refine wZ [4,2,5000] ?_
 refine oC J J J J (cS) ?_
 refine wA [10002] [2,3,5] [] ?_;rotate_left
 refine wA [10002] [2,3,5] [] ?_;rotate_left
 rintro zs ⟨z,vo,rfl⟩
 refine wA [7] [2,3,5,7] [] ?_
 refine lp (fun zm zs=>∃(i:Nat)(c:Int),zm=a.kids.length-i∧(i≤a.kids.length)∧(i≤b.kids.length)∧(de a b=nr c (cE (a.kids.drop i) (b.kids.drop i)))∧zs=⟨90,[(2,vvz (pz a)),(3,vvz (pz b)),(5,vvw (int c)),(7,vvw (int i))],[]⟩) ?_ ?_
 exact⟨_,0,_,rfl,Z5 _,Z5 _,by rw[vo];exact sS a b,rfl⟩
 rintro zm zs ⟨i,c,rfl,fU,fW,mO,rfl⟩
 refine wS [6,4002] [2,3,5,7,56] [] ?_ ?_<;>intro h19'
 refine wS [3,4003] [2,3,5,7,63] [] ?_ ?_<;>intro h20'
 refine wS [3005] [2,3,5,7,66] [] ?_ ?_<;>intro h21
 refine wA [2005,6003,6004,1] [2,3,7,73,78] [] ?_
 refine oE J J J J J J (ih _ _ (aaT (aax (hU ace) hr)) ace (aau (Nat.le_of_lt (hU ace)) hbs)) ?_
 refine wA [6,9002] [2,3,5,7] [] ?_;rotate_left
 refine wS [3013] [2,3,5,81] [] ?_ ?_<;>intro h22
 refine wZ [4,2,5000] ?_
 refine oC J J J J (cS) ?_
 refine wZ [8010] ?_;rotate_left
 refine wZ [8010] ?_;rotate_left
 refine wS [3018] [2,3,5,81] [] ?_ ?_<;>intro h23
 refine wZ [4,2,5000] ?_
 refine oC J J J J (cS) ?_
 refine wZ [8010] ?_;rotate_left
 refine wZ [8010] ?_;rotate_left
 refine wS [3025] [2,3,5,81] [] ?_ ?_<;>intro h24
 refine wZ [4,2,5000] ?_
 refine oC J J J J (cS) ?_
 refine wZ [8010] ?_;rotate_left
 refine wZ [8010] ?_;rotate_left
 all_goals first
  | (
    first|(exfalso;omega)|exact⟨_,Hj cX ace,rfl⟩|exact⟨_,O3 cX ace aZ au ace,rfl⟩;done)
  | (
    exact⟨_,⟨i+1,_,rfl,ace,ace,LR mO ace ace ace,rfl⟩,ace⟩;done)
  | (
    first|(exfalso;omega)|exact congrArg (fun z=>RV.p (int z)) (Hj mO ace)|exact congrArg (fun z=>RV.p (int z)) (O4 mO ace fU fW ace);done)
abbrev U0:=dU 4 Tryz.func194
theorem Ap {a b:Rx}(ha:a.size≤1099511627776)(hb:b.size≤1099511627776):aq Tryz.prog 194 [rx a,rx b] (.p (bool (decide (de a b=0)))):=by
 refine cF U0 fun w0 M0 aa=>?_
 refine c6 [2,0,7] [5,6] [] ?_
 refine oC J J J J (ri _ _ _ ha (Z1 _) hb) ?_
 refine wZ [8005] ?_
 rfl
abbrev XK:=dU 2 Tryz.func93
theorem kW:∀ (m:Nat)(r:Rx),r.size≤m→m≤1099511627776→aq Tryz.prog 93 [rx r] (.p (bool (aQ r))):=by
 intro m
 induction m with
 | zero=>intro a hr _;have:=size_pos a;omega
 | succ m ih =>
 intro r hr hm
 have hkl:=dX r
 have hsl:=eA r
 rw[fi r]
 refine cF XK fun w0 M0 aa=>?_
 refine rM [2,4010] [1,7] [] ?_ ?_<;>intro h1'
 refine wZ [8014] ?_;rotate_left
 refine wS [3006] [1,11] [] ?_ ?_<;>intro h2
 refine wZ [8008] ?_;rotate_left
 refine wS [3011] [1,14] [] ?_ ?_<;>intro h3
 refine wA [5] [1,16] [] ?_
 refine oC J J J J (JG ace) ?_
 refine wS [4001] [1,18] [] ?_ ?_<;>intro h4'
 refine wZ [2,8007] ?_;rotate_left
 refine wZ [8010] ?_;rotate_left
 refine wA [3] [1] [] ?_
 refine ct (fun zs=>∃z:Nat,(aQ r=lv r.kids)∧zs=⟨64,[(1,vvz (pz r))],[]⟩) ?_ ?_
 refine wS [4,4002] [1,28] [] ?_ ?_<;>intro h5'
 refine wZ [8031] ?_;rotate_left
 refine wS [4004] [1,28,32] [] ?_ ?_<;>intro h6'
 refine wS [2,4004] [1,39] [] ?_ ?_<;>intro h7'
 refine wZ [8020] ?_;rotate_left
 refine wS [4004] [1,39,43] [] ?_ ?_<;>intro h8'
 refine wS [2,3005] [1,49] [] ?_ ?_<;>intro h9
 refine wZ [8008] ?_;rotate_left
 refine wA [10002] [1] [] ?_;rotate_left
 refine wA [10010] [1] [] ?_;rotate_left
 refine wS [4011] [1,39,43] [] ?_ ?_<;>intro h10'
 refine wS [2,3005] [1,49] [] ?_ ?_<;>intro h11
 refine wZ [8008] ?_;rotate_left
 refine wA [10002] [1] [] ?_;rotate_left
 refine wA [10010] [1] [] ?_;rotate_left
 rintro zs ⟨z,RA,rfl⟩
 refine wA [7] [1,3] [] ?_
 refine lp (fun zm zs=>∃i:Nat,zm=r.kids.length-i∧(i≤r.kids.length)∧(∀j,j<i→aQ (r.kids.getD j default)=true)∧zs=⟨64,[(1,vvz (pz r)),(3,vvw (int i))],[]⟩) ?_ ?_
 exact⟨_,0,rfl,Z5 _,fun j hj=>absurd hj ace,rfl⟩
 rintro zm zs ⟨i,rfl,aZ,au,rfl⟩
 refine wS [6,3003] [1,3,54] [] ?_ ?_<;>intro h12
 refine wA [10,1] [1,3,61] [] ?_
 refine oC J J J J (ih _ (aaT (aax (hU ace) hr)) ace) ?_
 refine wS [3003] [1,3,63] [] ?_ ?_<;>intro h13
 refine wZ [8012] ?_;rotate_left
 refine wA [6,9002] [1,3] [] ?_
 exact⟨_,⟨i+1,rfl,ace,b7 au (by simp_all),rfl⟩,ace⟩
 refine wZ [8012] ?_;rotate_left
 all_goals first
  | (
    first|rw[RA,FD (i:=i) ace (by simp_all)]|rw[RA,Df (fun j hj=>au j ace)]|(rw[fA,if_pos ace];done)|(rw[fA,if_neg ace,if_pos ace];simp_all;done)|(rw[fA,if_neg ace,if_neg ace,if_pos ace];done);done)
  | (
    exact⟨0,by rw[fA,if_neg ace,if_neg ace,if_neg ace],rfl⟩;done)
noncomputable def Aq (r:Rx)(w:List Int):Bool:=aQ r&&pB (e7 r w)
theorem Tg {r:Rx}{w:List Int}(h:aQ r=true):((b8 (w.length+1) (qQ w r)).getD 0 default).getD w.length default=Aq r w:=by
 rw[kE (Nat.succ_pos _),fp (Nat.lt_succ_self _)]
 unfold Aq qQ
 rw[h,aaZ,SA]
 refine abE.2 ?_
 rw[ku,ku]
 exact⟨fun q=>q.2,fun q=>⟨Z5 _,q⟩⟩
abbrev U1:=dU 4 Tryz.func179
theorem pT {r:Rx}{w:List Int}(hr:r.size≤1099511627776)(hw:w.length≤1099511627776):aq Tryz.prog 179 [rx r,ints w] (.p (bool (Aq r w))):=by
 have hp:aQ r=true→aq Tryz.prog 222 [rx r,ints w] (.p (pN (b8 (w.length+1) (qQ w r)))):=fun hv=>by
  have h:=(Gb hw _ r (Z1 _) hr hv).data mM
  rwa [xL] at h
 have hl1:=cG (w.length+1) (qQ w r)
 have hl2:((b8 (w.length+1) (qQ w r)).getD 0 default).length=w.length+1:=by rw[kE (Nat.succ_pos _),bH]
 refine cF U1 fun w0 M0 aa=>?_
 refine c6 [2,7] [1,2,5] [] ?_
 refine oC J J J J (kW _ r (Z1 _) hr) ?_
 refine wS [3003] [1,2,7] [] ?_ ?_<;>intro h1
 refine wZ [8008] ?_;rotate_left
 refine wA [7] [1,8,9] [] ?_
 refine oC J J J J (hp ach) ?_
 refine wZ [0,2,0,8005] ?_;rotate_left
 all_goals
  first
   | (rw[show Aq r w=false from by unfold Aq;simp_all];first|done|rfl)
   | (rw[←Tg ach];first|done|rfl)
end Go.Proofs.YtlapahnodhmcpaaGreat
namespace Go.Wb
open Go.Am Go.We
theorem P0 (v:List Int):Dv dG v=dG:=by
 have h:∀b,dR b dG=dG:=fun b=>by rw[ui acg (fun e=>absurd e acg),By acg acg,kT]
 induction v with
 | nil=>rfl
 | cons b v ih=>show Dv (dR b dG) v=_;rw[h,ih]
end Go.Wb
namespace Go.Proofs.YtlapahnodhmcpaaGreat
open Go.Am Go.Wb Go.We
theorem pU (r:Rx)(w:List Int):rP r w=Aq r w:=by
 unfold Aq
 by_cases h:aQ r=true
 ·rw[h,aaZ]
  exact abE.2 ((lH h w).trans ku.symm)
 ·rw[xJ,show dy r=dG from if_neg h,P0,show aQ r=false by simpa using h];rfl
end Go.Proofs.YtlapahnodhmcpaaGreat
