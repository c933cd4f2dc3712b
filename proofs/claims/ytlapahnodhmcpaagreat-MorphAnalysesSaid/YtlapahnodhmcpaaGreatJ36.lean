/-
  Part of the proof.
-/
import Derived.Test.YtlapahnodhmcpaaGreatJ0
import Derived.Test.YtlapahnodhmcpaaGreatJ16
import Derived.Test.YtlapahnodhmcpaaGreatJ35
import Derived.Test.YtlapahnodhmcpaaGreatJ26
import Derived.Test.YtlapahnodhmcpaaGreatJ17
import Derived.Test.YtlapahnodhmcpaaGreatJ22
import Derived.Test.YtlapahnodhmcpaaGreatJ19
import Derived.Shelf.SlSortCmp.Whole1
import Derived.Test.YtlapahnodhmcpaaGreatJ31
set_option linter.unusedVariables false
set_option linter.unusedSectionVars false
set_option linter.unusedSimpArgs false
set_option maxRecDepth 100000
set_option maxHeartbeats 40000000
namespace Go.Wf
open Go.Am Go.Wb Go.Wc
def e6 (F:List (List aY))(E:List (Nat×Nat)):List (List Int):=E.map fun p=>(bf F p).ah
def vk (l:List (List Int)):List (List Int):=l.mergeSort fun x y=>!decide (bB y x<0)
theorem uN {l:List (List Int)}{x:List Int}:x∈vk l↔x∈l:=(List.mergeSort_perm l _).mem_iff
theorem Kh (l:List (List Int)):(vk l).length=l.length:=List.length_mergeSort l
def QG (F:List (List aY)):List (List Int):=sj (fun x y=>decide (x=y)) (vk (e6 F (aR F F.length 0)))
theorem ER {F:List (List aY)}(hF:vC F)(E:List (Nat×Nat)):∀x∈e6 F E,x.length≤1048576:=fun x hx=>by
 obtain⟨p,_,rfl⟩:=aao.1 hx
 exact(eQ hF p).ah
theorem oY (F:List (List aY))(E:List (Nat×Nat)):(e6 F E).length=E.length:=Z0 _
theorem vD (x:List Int):¬bB x x<0:=by have:=kp x x;omega
theorem mi {x y:List Int}(h:¬bB x y<0)(h':¬bB y x<0):x=y:=mH x y (by have:=kp x y;omega)
end Go.Wf
namespace Go.Proofs.YtlapahnodhmcpaaGreat
open Go.Am Go.Wb Go.Wc Go.Wf Go.We Go.RowKit Go.MapKept Go.Shelf
theorem TI:MX Tryz.prog 56 :=
 ⟨⟨Tryz.f56, Tryz.func56, acf, acf⟩,
  fun p cap fv w=>AnyF.slices_SortFunc_none { Tryz.vk with } p cap fv w,
  fun enc h1 cf hO g cb blk off cap d w eg hcmp hH hblk hsz=>Any.slices_SortFunc Tryz.vk enc h1 cf hO g cb blk off cap d w eg hcmp hH hblk hsz⟩
abbrev YA:=dU 4 Tryz.func58
theorem zc {l:List (List Int)}{eq:List Int→List Int→Bool}{g:FuncId}(hl:l.length≤1099511627776)(hf:∀x∈l,∀y∈l,aq Tryz.prog g [ints x,ints y] (.p (bool (eq x y)))) :
  lg Tryz.prog 58 [.own 0,vvw (.clo g [])] [(0,.arr 22 (l.map ints))] (.own 0) [(0,.arr 22 ((sj eq l).map ints))]:=by
 refine gz YA (ZZ J) fun w0 M0 aa=>?_
 refine rM [9,3003] [0,1,10] [0] ?_ ?_<;>intro h1
 refine wZ [9] ?_
 refine ey (o1:=[(0,_)]) J ⟨rfl,trivial⟩ ?_
 rw[tZ ace];exact⟨rfl,rfl⟩
 refine wA [10] [0,1,5] [0] ?_
 refine lp (fun zm zs=>∃q:Nat,zm=l.length-q∧(1≤q)∧(q≤l.length)∧(en (eq) l q=l.take q)∧zs=⟨66,[(0,.own 0),(1,vvw (.clo g [])),(5,vvw (int q))],[(0,.arr 22 (l.map ints))]⟩) ?_ ?_
 exact⟨_,1,rfl,Z1 _,ace,by rw[sT,bD ace];rfl,rfl⟩
 rintro zm zs ⟨q,rfl,aZ,au,cX,rfl⟩
 have e0:((q:Int)-1).toNat=q-1:=ace
 refine wS [5,3003] [0,1,5,15] [0] ?_ ?_<;>intro h2
 refine wZ [2006,6003,6000,6002,6000,6000,5000] ?_
 refine oE J J J J J J (hf _ (ba ace) _ (ba ace)) ?_
 refine wS [3002] [0,1,5,28] [0] ?_ ?_<;>intro h3
 refine wA [5] [0,1,5,29,30] [0] ?_
 refine oP J (dN J Tryz.underlying52 BP J J J (by first|(simp only[ll];omega)|omega)) ?_
 refine wA [10] [0,1,5,6,7] [0] ?_
 refine lp (fun zm zs=>∃(ys:List (List Int))(k j:Nat),zm=l.length-q-j∧(1≤j)∧(q+j≤l.length)∧(ys.length=l.length)∧(en (eq) l (q+j)=ys.take k)∧(k+1≤q+j)∧(∀i,q+j≤i+1→ys.getD i default=l.getD i default)∧(∀x∈ys,x∈l)∧zs=⟨66,[(0,.own 0),(1,vvw (.clo g [])),(5,vvw (int k)),(6,.vsl 0 q ((l.map ints).length-q)),(7,vvw (int j))],[(0,.arr 22 (ys.map ints))]⟩) ?_ ?_
 rw[e0] at h3
 exact⟨_,l,q,1,rfl,Z1 _,ace,rfl,(nv ace (h3)).trans cX,Z1 _,fun i _=>rfl,fun x hx=>hx,rfl⟩
 rintro zm zs ⟨ys,k,j,rfl,fU,fW,mO,pX,RH,ir,tk,rfl⟩
 refine wS [5,3003] [0,1,5,6,7,35] [0] ?_ ?_<;>intro h4
 refine wZ [2006,6003,6000,6002,6000,6000,5000] ?_
 refine oE J J J J J J (hf _ (tk _ (ba ace)) _ (tk _ (ba ace))) ?_
 refine wS [3003] [0,1,5,6,7,49] [0] ?_ ?_<;>intro h5
 refine wZ [7,0,0,5000] ?_
 refine oS J (ay J J J BP J J (ix (by first|(simp only[ll];omega)|omega)) J J (.inl J) J (ZZ J) aa) J ?_
 refine wA [4,6,9002] [0,1,5,6,7] [0] ?_
 have e1:((j:Int)-1).toNat=j-1:=ace
 rw[e1,ir (q+j) ace,ir (q+(j-1)) ace] at h5
 refine⟨_,⟨ys.set k (l.getD (q+j) default),k+1,j+1,rfl,ace,ace,by simpa using mO,Br ace pX ?_,ace,fun i hi=>?_,fun x hx=>?_,?_⟩,ace⟩
 ·rw[show q+j-1=q+(j-1) by omega]
  exact h5
 ·rw[lx ace];exact ir i ace
 ·rcases List.mem_or_eq_of_mem_set hx with hx|rfl
  ·exact tk x hx
  ·exact ba ace
 ·rw[List.map_set,←ir (q+j) ace];rfl
 refine wA [6,9002] [0,1,5,6,7] [0] ?_
 have e1:((j:Int)-1).toNat=j-1:=ace
 rw[e1,ir (q+j) ace,ir (q+(j-1)) ace] at h5
 refine⟨_,⟨ys,k,j+1,rfl,ace,ace,mO,xn ace pX ?_,ace,fun i hi=>ir i ace,tk,rfl⟩,ace⟩
 rw[show q+j-1=q+(j-1) by omega]
 exact h5
 refine wA [10] [0,5,59,60] [0] ?_
 refine oP J (dN J Tryz.underlying52 BP J J J (by first|(simp only[ll];omega)|omega)) ?_
 refine oS J (jQ (zv:=.sc (.slice none 0 0)) J J J Tryz.underlying52 BP J J UA acg J J aa) J ?_
 refine wA [6] [62,63] [0] ?_
 refine oP J (gW J Tryz.underlying52 BP J J J (by first|(simp only[ll];omega)|omega)) ?_
 refine pj 64 J J aa J ?_
 refine FC [9] ?_
 refine ey (o1:=[(0,_)]) J ⟨rfl,trivial⟩ ?_
 refine⟨rfl,?_⟩
 rw[←Bs (f:=ints) (k:=k) (n:=q+j) ace ace pX];rfl
 refine wA [6,9002] [0,1,5] [0] ?_
 rw[e0] at h3
 exact⟨_,⟨q+1,rfl,ace,ace,ua ace cX (h3),rfl⟩,ace⟩
 refine wZ [13] ?_
 refine ey (o1:=[(0,_)]) J ⟨rfl,trivial⟩ ?_
 rw[Bt (n:=q) ace cX];exact⟨rfl,rfl⟩
noncomputable abbrev GP (F:List (List aY))(E:List (Nat×Nat)):List (Nat×Ob):=[(15,.arr 22 ((e6 F E).map ints)),(1000000,.box 52 [.own 15])]
theorem Ki {l:List dY}{F:List (List aY)}{z:Nat}{rec:Loop}(hF:vC F)
  (hY:∀i k,i<F.length→k<(F.getD i default).length→Lm Tryz.prog z rec [3] [vvw (iP (i,k)),vvw (iG (bf F (i,k)))] [.pbox 1000000 0] (GP F (aR F i k)) (GP F (aR F i (k+1)))) :
  zE Tryz.prog 82 z rec [.hid (yR z rec [3]) [.bx 1000000],vvw (.pc [tK l F] 0)] (GP F (aR F 0 0)) (GP F (aR F F.length 0)):=by
 refine lR Wu (ZZ J) fun w0 M0 aa hmd Lo hwl=>?_
 refine c6 [3,2,4] [0,10,11,12] [15,1000000] ?_
 refine lp (fun zm zs=>∃i:Nat,zm=F.length-i∧(i≤F.length)∧zs=⟨33,[(0,.hid (yR z rec [3]) [.bx 1000000]),(10,vvw (.sl (F.map bV))),(11,vvw (int F.length)),(12,vvw (int i))],[(15,.arr 22 ((e6 F (aR F i 0)).map ints)),(1000000,.box 52 [.own 15])]⟩) ?_ ?_
 exact⟨_,0,rfl,Z5 _,rfl⟩
 rintro zm zs ⟨i,rfl,aZ,rfl⟩
 have WN:=hF.n
 refine wS [3006] [0,10,11,12,13] [15,1000000] ?_ ?_<;>intro h1
 refine wA [8,8,4] [0,3,10,11,12,17,18,19] [15,1000000] ?_
 refine lp (fun zm zs=>∃k:Nat,zm=(F.getD i default).length-k∧(k≤(F.getD i default).length)∧zs=⟨33,[(0,.hid (yR z rec [3]) [.bx 1000000]),(3,vvw (int i)),(10,vvw (.sl (F.map bV))),(11,vvw (int F.length)),(12,vvw (int i)),(17,vvw (bV (F.getD i default))),(18,vvw (int (F.getD i default).length)),(19,vvw (int k))],[(15,.arr 22 ((e6 F (aR F i k)).map ints)),(1000000,.box 52 [.own 15])]⟩) ?_ ?_
 exact⟨_,0,rfl,Z5 _,rfl⟩
 rintro zm zs ⟨k,rfl,fU,rfl⟩
 have hrow:=hF.row (F.getD i default) (ba ace)
 refine wS [3006] [0,3,10,11,12,17,18,19,20] [15,1000000] ?_ ?_<;>intro h2
 refine wA [8,7] [0,3,5,6,10,11,12,17,18,19] [6,15,1000000] ?_
 refine yG 5 hmd J ?_
 refine wZ [6] ?_
 refine⟨_,rH [] J J J J J J J (hY i k ace ace) Lo hwl ⟨.inl J,.inl J,trivial⟩ ⟨.inl J,trivial⟩ ⟨rfl,rfl,trivial⟩ J J J J aa,?_⟩
 refine wA [8,9002] [0,3,10,11,12,17,18,19] [15,1000000] ?_
 exact⟨_,⟨k+1,rfl,ace,rfl⟩,ace⟩
 refine wA [8,9002] [0,10,11,12] [15,1000000] ?_
 obtain rfl:k=(F.getD i default).length:=ace
 exact⟨_,⟨i+1,rfl,ace,by rw[←tC J];rfl⟩,ace⟩
 refine wZ [5] ?_
 refine ec (o1:=[(15,_),(1000000,_)]) ⟨rfl,rfl,trivial⟩ ?_
 first|(obtain rfl:i=F.length:=by omega);rfl
abbrev YB:=dU 2 Tryz.func27
theorem ES {l:List dY}{F:List (List aY)}(hF:vC F):aX Tryz.prog 27 [tK l F] (.p (my (QG F))):=by
 have hln:=oY F (aR F F.length 0)
 have hls:=mV hF (Z1 F.length) (Z5 _)
 have hlm:=ER hF (aR F F.length 0)
 refine xh YB (ZZ J) fun w0 M0 aa hmd=>?_
 refine c6 [12] [0,3] [3] ?_
 refine bL 3 0 15 22 52 aa J J J J ?_
 refine gS [2] [3,6] [3,15] ?_
 refine oN J J J J J (Wt) ?_
 refine wA [3] [3,7] [3,15] ?_
 refine WZ [(15,15),(1000000,3)] (GP F (aR F 0 0)) (GP F (aR F F.length 0)) [3] [.bx 1000000] hmd aa (fun zl zr q1 q2 q3 q4 q5 q6=>Ki (l:=l) (F:=F) hF (fun i k hi hk=>Be (n:=20) (p:=8) (q:=9) (ts:=[3]) q1 q2 q3 q4 q5 q6 J (fun w0 M0 aa hmd0=>?_))) J J J ⟨.inl J,trivial⟩ ⟨.inl J,trivial⟩ ⟨rfl,rfl,trivial⟩ J J J J J ?_
 refine zM [4] ?_
 intro w0 M0 aa hmd0
 refine c6 [1] [3,5] [5,15,1000000] ?_
 refine ao.imp (jG 1000000 0 40 aa J J J J J J J J J) ?_
 refine gS [0] [3,5] [5,40,1000000] ?_
 refine bw (n:=20) 1 (fun p=>[5].getD p 0) (fun p=>[[(5,.box 64 [vvw (aj (bf F (i,k)).cell),vvw (ints (bf F (i,k)).ah),vvw (ints (bf F (i,k)).cuts),vvw (strs (bf F (i,k)).rules)]),(40,.arr 22 ((e6 F (aR F i k)).map ints)),(1000000,.box 52 [.own 40])],[(5,.box 64 [vvw (aj (bf F (i,k)).cell),vvw (ints (bf F (i,k)).ah),vvw (ints (bf F (i,k)).cuts),vvw (strs (bf F (i,k)).rules)]),(15,.arr 22 ((e6 F (aR F i k)).map ints++[ints (bf F (i,k)).ah])),(1000000,.box 52 [.dead])]].getD p []) 6 [(0,some [0]),(1,some [0]),(2,some [0]),(3,none),(4,none)] [(10,.own 40),(11,.pbox 5 1),(12,vvw (ints (bf F (i,k)).ah)),(13,vvw (ints (bf F (i,k)).ah)),(14,vvw (.sl [ints (bf F (i,k)).ah])),(15,.own 15),(3,.pbox 1000000 0),(5,.pbox 5 0)] mixed acf acf acf acf acf ?_ (fun t d h=>h) J ?_ ?_ ?_
 ·rfl
 ·exact
  ai (ai ((ae J XG J J J)) (trivial)) (
  ai (ai ((aK J F8 J J)) (trivial)) (
  ai (ai ((ae J F5 J J J)) (trivial)) (
  ai (fun _=>(bC J J J ((aq.weaken (fb (l:=(bf F (i,k)).ah) (by have:=(eQ hF (i,k)).ah;omega)))) aa)) (
  ai (fun _=>(bY J Tryz.underlying52 tc J J J J aa)) (
  trivial)))))
 ·exact ai (fun X fl dO dh=>db (T:=52) (t:=15) (u:=10) (id:=40) (y:=.tmp 14) rfl rfl rfl fl Tryz.underlying52 tc ((dh 10 acg).trans rfl) rfl (cZ (jR ((dh 14 acg).trans rfl)) (cw (by rfl))) (by rw[Z0,oY];have hrw:=hF.row (F.getD i default) (ba hi);have:=mV hF (i:=i) (k:=k) ace ace;simp only[Z2,Z9];omega) (by rw[Z0,oY];have hrw:=hF.row (F.getD i default) (ba hi);have:=mV hF (i:=i) (k:=k) ace ace;simp only[Z2,Z9];omega) rfl dO rfl rfl rfl aa) (trivial)
 refine bO (n:=1) acf ?_
 refine aH (i:=6) acf J J (aU J J J XF J J J J J aa) ?_
 refine bg acf ?_
 refine Cx [1] ?_
 refine cR (o1:=[(15,_),(1000000,_)]) ⟨rfl,rfl,trivial⟩ ?_
 focus (unfold GP e6;rw[nP,Z8,Z8];first|done|rfl)
 refine wA [5] [3,16] [3,15] ?_
 refine oS J (F1 (f0:=ints) (cf:=bB) (p:=fun x=>x.length≤1048576) (l:=(e6 F (aR F F.length 0))) TI J J J J J J J BP (fun _=>rfl) hlm (fun a b ha hb=>ng ace ace) ⟨Tryz.f57,Tryz.func57,acf,acf⟩ (fun a _=>vD a) (fun a b c _ _ _=>jT a b c) (fun a b _ _=>mi) ace aa) J ?_
 refine wA [5] [18] [15] ?_
 refine oS J (aO [(0,15)] J J J J J J J (zc (eq:=fun x y=>decide (x=y)) (l:=vk (e6 F (aR F F.length 0))) (by rw[Kh];omega) (fun x hx y hy=>vz (by have:=hlm x (uN.1 hx);omega) (by have:=hlm y (uN.1 hy);omega))) ⟨.inl J,.inl J,trivial⟩ ⟨rfl,trivial⟩ J J J J J aa) J ?_
 refine kj 20 [(19,_)] [] aa J ⟨.inr ⟨_,_,rfl,rfl,rfl⟩,trivial⟩ trivial ?_
 refine FC [8004] ?_
 rfl
end Go.Proofs.YtlapahnodhmcpaaGreat
namespace Go.Wf
open Go.Am Go.Wb Go.Wc
theorem r9 {α:Type}{r:α→α→Prop}(hr:∀x y,r x y→¬r y x):∀{a b:List α},a.Pairwise r→b.Pairwise r→(∀x,x∈a↔x∈b)→a=b
 | [],[],_,_,_=>rfl
 | [],y :: b,_,_,h=>absurd ((h y).2 Z7) (by simp)
 | x :: a,[],_,_,h=>absurd ((h x).1 Z7) (by simp)
 | x :: a, y :: b, ha, hb, h => by
   rw[aaF] at ha hb
   have hxy:x=y:=by
     rcases aah.1 ((h x).1 Z7) with h1|h1
     · exact h1
     · rcases aah.1 ((h y).2 Z7) with h2 | h2
       · exact h2.symm
       · exact absurd (hb.1 x h1) (hr _ _ (ha.1 y h2))
   subst hxy
   have:a=b:=r9 hr ha.2 hb.2 fun z=>⟨fun hz=>by
     rcases aah.1 ((h z).1 (aac _ hz)) with h1|h1
     · subst h1;exact absurd (ha.1 z hz) (hr _ _ (ha.1 z hz))
     · exact h1,fun hz=>by
     rcases aah.1 ((h z).2 (aac _ hz)) with h1|h1
     · subst h1;exact absurd (hb.1 z hz) (hr _ _ (hb.1 z hz))
     · exact h1⟩
   rw[this]
theorem uO:∀ a b:List Int,mu a b=decide (bB a b<0)
 | [],[]=>rfl
 | [],_ :: _=>rfl
 | _ :: _,[]=>rfl
 | x :: a, y :: b => by
   have ih:=uO a b
   by_cases h:x=y
   · subst h
     have e:bQ x x=0:=by unfold bQ;rw[if_neg ace,if_neg ace]
     rw[mu,if_pos rfl,ih,bB,e];rfl
   · rw [mu, if_neg h, bB]
     by_cases h2:x<y
     · rw[show bQ x y=-1 from if_pos h2,decide_eq_true h2];rfl
     · rw[show bQ x y=1 from(if_neg h2).trans (if_pos ace),decide_eq_false h2];rfl
def rL (a b:List Int):Prop:=bB a b<0
theorem N9 (a b:List Int)(h:rL a b):¬rL b a:=by have:=kp a b;unfold rL at *;omega
theorem Oa {l:List (List Int)}{x z:List Int}:z∈lf l x↔z∈l∨z=x:=by
 constructor
 · exact wx
 · induction l with
   | nil =>
     rintro(h|rfl)
     · cases h
     · exact Z7
   | cons y l ih =>
     intro h
     unfold lf
     split
     · rcases h with h | h
       · rcases aah.1 h with h | h
         · rw[h];exact Z7
         · exact aac _ (ih (.inl h))
       · exact aac _ (ih (.inr h))
     · split
       · next he =>
         rcases h with h|h
         · exact h
         · rw[h,he];exact Z7
       · rcases h with h | h
         · exact aac _ h
         · rw[h];exact Z7
theorem Oc:∀ {l:List (List Int)}{x:List Int},l.Pairwise rL→(lf l x).Pairwise rL
 | [],x,_=>abr _ _
 | y :: l, x, h => by
   have h':=aaF.1 h
   unfold lf
   split
   · next hb =>
     rw[uO,decide_eq_true_eq] at hb
     refine aaF.2 ⟨fun z hz=>?_,Oc h'.2⟩
     rcases wx hz with h1|h1
     · exact h'.1 z h1
     · rw[h1];exact hb
   · next hb =>
     split
     · exact h
     · next he =>
       rw[uO] at hb
       have hb:¬bB y x<0:=by simpa using hb
       have hx:rL x y:=by
         by_cases h2:bB x y<0
         · exact h2
         · exact absurd (mi hb h2) he
       refine aaF.2 ⟨fun z hz=>?_,h⟩
       rcases aah.1 hz with h1|h1
       · rw[h1];exact hx
       · exact jT _ _ _ hx (h'.1 z h1)
theorem Od (F:List (List aY))(i k:Nat):(kf F i k).Pairwise rL:=by
 unfold kf
 refine ic (C:=fun l=>(l.foldl (fun o p=>lf o (bf F p).ah) []).Pairwise rL) List.Pairwise.nil (fun l p ih=>?_) _
 rw[abf]
 exact Oc ih
theorem Kj {F:List (List aY)}{i k:Nat}{z:List Int}:z∈kf F i k↔z∈e6 F (aR F i k):=by
 unfold kf e6
 refine ic (C:=fun l=>z∈l.foldl (fun o p=>lf o (bf F p).ah) []↔z∈l.map fun p=>(bf F p).ah) Iff.rfl (fun l p ih=>?_) _
 rw[abf,Z8,aaC,←ih,ab5,aag]
 exact Oa
def GQ (x y:List Int):Bool:=!decide (bB y x<0)
theorem Kk (a b c:List Int)(h:GQ a b=true)(h':GQ b c=true):GQ a c=true:=by
 unfold GQ at *
 simp only[aaJ,decide_eq_false_iff_not] at *
 intro h2
 by_cases h3:bB a b<0
 ·exact h' (jT _ _ _ h2 h3)
 ·rw[mi h3 h] at h2;exact h' h2
theorem Kl (a b:List Int):(GQ a b||GQ b a)=true:=by
 unfold GQ
 have:=kp a b
 rcases Int.lt_or_le (bB b a) 0 with h|h
 ·rw[decide_eq_false (p:=bB a b<0) ace,Bool.not_false,Bool.or_true]
 ·rw[decide_eq_false (p:=bB b a<0) ace];rfl
theorem Oe (l:List (List Int)):(vk l).Pairwise fun x y=>GQ x y=true:=List.pairwise_mergeSort Kk Kl l
theorem Of (a:List Int):GQ a a=true:=by unfold GQ;rw[decide_eq_false (vD a)];rfl
theorem yA {l:List (List Int)}(h:l.Pairwise fun x y=>GQ x y=true):∀i,i≤l.length→(en (fun x y=>decide (x=y)) l i).Pairwise rL∧∀z,z∈en (fun x y=>decide (x=y)) l i↔z∈l.take i
 | 0,_=>⟨List.Pairwise.nil,fun z=>Iff.rfl⟩
 | i + 1, hi => by
   obtain⟨h1,h2⟩:=yA h i ace
   have hle:∀j k,j≤k→k<l.length→GQ (l.getD j default) (l.getD k default)=true:=fun j k hj hk=>by
     rw[dT (show j<l.length by omega),dT hk]
     rcases Nat.eq_or_lt_of_le hj with q|q
     · subst q;exact Of _
     · exact abx.1 h j k _ _ q
   by_cases hd:0<i∧l.getD i default=l.getD (i-1) default
   · rw [nv hd.1 (decide_eq_true hd.2)]
     refine⟨h1,fun z=>(h2 z).trans ?_⟩
     rw[take_succ (show i<l.length by omega),aaC,aag]
     refine⟨.inl,fun q=>q.elim id fun q=>?_⟩
     rw[q,hd.2,List.mem_take_iff_getElem]
     exact⟨i-1,ace,(dT ace).symm⟩
   · have hn : en (fun x y => decide (x = y)) l (i + 1) = en (fun x y => decide (x = y)) l i ++ [l.getD i default] := by
       rw[en,if_neg (fun q=>hd ⟨q.1,of_decide_eq_true q.2⟩)]
     rw[hn]
     refine⟨List.pairwise_append.2 ⟨h1,abr _ _,fun c hc y hy=>?_⟩,fun z=>?_⟩
     · rw [aag.1 hy]
       obtain⟨j,hj,rfl⟩:=List.mem_take_iff_getElem.1 ((h2 c).1 hc)
       have hj':j<i:=ace
       have e:l[j]'ace=l.getD j default:=(dT ace).symm
       rw[e]
       have q1:=hle j i ace ace
       by_cases h3:bB (l.getD j default) (l.getD i default)<0
       · exact h3
       · have q1' : ¬ bB (l.getD i default) (l.getD j default) < 0 := by unfold GQ at q1; simpa using q1
         have e2:=mi h3 q1'
         have q2:=hle j (i-1) ace ace
         have q3:=hle (i-1) i ace ace
         rw[e2] at q2
         have q2':¬bB (l.getD (i-1) default) (l.getD i default)<0:=by unfold GQ at q2;simpa using q2
         have q3':¬bB (l.getD i default) (l.getD (i-1) default)<0:=by unfold GQ at q3;simpa using q3
         exact absurd ⟨ace,mi q3' q2'⟩ hd
     · rw[aaC,h2 z,take_succ (show i<l.length by omega),aaC]
theorem TJ (F:List (List aY)):QG F=Cp F:=by
 unfold QG Cp sj
 obtain⟨h1,h2⟩:=yA (Oe (e6 F (aR F F.length 0))) _ (Z1 _)
 refine r9 N9 h1 (Od F F.length 0) fun z=>(h2 z).trans ?_
 rw[aa1,uN,Kj]
structure Good (f:aY):Prop where
 lt:∀x∈f.ah,0≤x∧x<64
 pw:f.cuts.Pairwise (·<·)
 bd:∀c∈f.cuts,0<c∧c<f.ah.length
def yB (w:List Int):Prop:=∀x∈w,0≤x∧x<64
theorem Og {r:aG}{w:List Int}(h:yB w):yB (bp r w):=by
 unfold bp
 split
 · next hk =>
   rw[aae] at hk
   have hr:=hk.1
   unfold bI at hr
   simp only[aae] at hr
   have hp:=aam.1 hr.1.2
   intro x hx
   obtain⟨i,hi,hx⟩:=abv.1 hx
   have hw:0≤w.getD i default∧w.getD i default<64:=h _ (ba (aap.1 hi))
   split at hx
   · next p hpo =>
     split at hx
     · have hm : p ∈ r.pairs := abw hpo
       have:=hp p hm
       unfold js fD at this
       simp only[aae] at this
       exact Gc (aam.1 this.2 x hx)
     · rw[aag.1 hx];exact hw
   · rw[aag.1 hx];exact hw
 · exact h
theorem Oh:∀ {l:List aG}{w:List Int},yB w→yB (wK w l)
 | [],w,h=>h
 | r :: l,w,h=>Oh (l:=l) (Og h)
theorem Oi {o x:List Int}(ho:yB o)(hx:yB x):yB (kX o x):=by
 unfold kX
 split
 · exact ho
 · split
   · exact hx
   · intro y hy
     rcases aaC.1 hy with hy|hy
     · rcases aaC.1 hy with hy | hy
       · exact ho y hy
       · rw[aag.1 hy];decide
     · exact hx y hy
theorem Oj {l:List (List Int)}(h:∀x∈l,yB x):yB (iH l):=by
 have key:∀(l:List (List Int))(o:List Int),(∀x∈l,yB x)→yB o→yB (l.foldl kX o):=by
  intro l
  induction l with
  | nil=>intro o _ h;exact h
  | cons x l ih=>intro o h ho;exact ih _ (fun y hy=>h y (aac _ hy)) (Oi ho (h x Z7))
 exact key l [] h (fun x hx=>by cases hx)
theorem sa {l:List Int}(h:gu l=true):yB l:=fun x hx=>by
 have:=aam.1 h x hx
 unfold JY at this
 simp only[aae,decide_eq_true_eq] at this
 omega
theorem Km (l:List Int)(x:Int):fj (l++[x])=x:=by
 unfold fj
 rw[aab,show l.length+[x].length-1=l.length from rfl,ZY,aal (Z1 _),abQ];rfl
theorem QH {w:List Int}{i:Nat}(h:i<w.length):nL w i≤nL w (i+1):=by
 by_cases q:w.getD i default=63
 ·rw[wv h q];exact Int.le_refl _
 ·rw[B9 h q];omega
theorem Ol (w:List Int):∀ i,i≤w.length→(eY w i).Pairwise (·<·)∧(∀ c∈eY w i,0<c∧c≤fj (eY w i)∧c<((gO w).length:Nat))∧(0<(eY w i).length→fj (eY w i)≤nL w i)
 | 0,_=>⟨List.Pairwise.nil,(fun c hc=>by cases hc),(fun h=>by cases h)⟩
 | i + 1, hi => by
   obtain⟨h1,h2,h3⟩:=Ol w i ace
   have hm:=QH (w:=w) (i:=i) ace
   by_cases hx:w.getD i default=63
   · by_cases hs : nL w i = 0 ∨ nL w i = ((gO w).length : Nat) ∨ (0 < (eY w i).length ∧ fj (eY w i) = nL w i)
     · rw[pY hx hs];exact⟨h1,h2,fun h=>Int.le_trans (h3 h) hm⟩
     · rw [yn hx hs, Km]
       have hne:∀c∈eY w i,c<nL w i:=fun c hc=>by
         have hl:0<(eY w i).length:=abI hc
         have:=(h2 c hc).2.1
         have h4:=h3 hl
         have h5:fj (eY w i)≠nL w i:=fun q=>hs (.inr (.inr ⟨hl,q⟩))
         omega
       have hnn:0≤nL w i:=by unfold nL;omega
       have hnl:nL w i≤((gO w).length:Nat):=by
         unfold nL
         have:(gO (w.take i)).length≤(gO w).length:=by
           unfold gO
           exact List.Sublist.length_le (List.Sublist.filter _ (List.take_sublist i w))
         omega
       refine⟨List.pairwise_append.2 ⟨h1,abr _ _,fun c hc y hy=>by rw[aag.1 hy];exact hne c hc⟩,fun c hc=>?_,fun _=>hm⟩
       rcases aaC.1 hc with hc|hc
       · have := hne c hc
         exact⟨(h2 c hc).1,ace,(h2 c hc).2.2⟩
       · rw [aag.1 hc]
         refine⟨?_,Int.le_refl _,?_⟩
         · have:nL w i≠0:=fun q=>hs (.inl q);omega
         · have:nL w i≠((gO w).length:Nat):=fun q=>hs (.inr (.inl q));omega
   · rw[Ca hx];exact⟨h1,h2,fun h=>Int.le_trans (h3 h) hm⟩
theorem sb:Good Ia:=⟨(fun x hx=>by cases hx),List.Pairwise.nil,(fun c hc=>by cases hc)⟩
theorem GR (g:aI)(cl cn:List UInt8)(w:List Int):Good (fX g cl cn w):=by
 unfold fX
 split
 · next h =>
   have hu:gP g cl cn=0:=by
     by_cases q:gP g cl cn=0
     · exact q
     · rw[nO q] at h;exact h
   have hf:ja (bh g cl) w=true:=by
     cases q:ja (bh g cl) w
     · rw[tw hu q] at h;cases h
     · rfl
   have hok:j1 g cl cn=true:=by
     unfold gP at hu
     split at hu
     · cases hu
     · split at hu
       · cases hu
       · next h2=>simpa using h2
   unfold j1 uF at hok
   simp only[aae] at hok
   have hl:gu w=true:=by unfold ja at hf;simp only[aae] at hf;exact hf.1.2
   have hst:yB (bS g cl w):=fun x hx=>sa hl x (aa6 hx)
   have hj:yB (uH g cl cn w):=Oj fun x hx=>by
     simp only[aah,abU,or_false] at hx
     rcases hx with rfl|rfl|rfl
     · exact sa hok.1.1.1.1.2.2
     · exact Oh hst
     · exact sa hok.1.1.1.2.2
   have hw:yB (wK (uH g cl cn w) (nV g)):=Oh hj
   generalize wK (uH g cl cn w) (nV g)=W at hw
   obtain⟨c1,c2,_⟩:=Ol W W.length (Z1 _)
   exact⟨fun x hx=>hw x (aaS.1 hx).1,c1,fun c hc=>⟨(c2 c hc).1,(c2 c hc).2.2⟩⟩
 · exact sb
def vE (F:List (List aY)):Prop:=∀r∈F,∀x∈r,Good x
theorem sd (g:aI)(l:List dY):vE (aT g l):=fun r hr x hx=>by
 obtain⟨y,_,rfl⟩:=aao.1 hr
 unfold fe at hx
 split at hx
 ·obtain⟨c,_,rfl⟩:=aao.1 hx
  exact GR _ _ _ _
 ·cases hx
theorem vE.at {F:List (List aY)}(h:vE F)(p:Nat×Nat):Good (bf F p):=by
 unfold bf
 rcases aaq p.1 F.length with h1|h1
 ·rcases aaq p.2 (F.getD p.1 default).length with h2|h2
  ·exact h _ (ba h1) _ (ba h2)
  ·rw[ZY (l:=F.getD p.1 default),aaz h2];exact sb
 ·rw[ZY (l:=F),aaz h1]
  show Good (([]:List aY).getD p.2 default)
  exact sb
theorem str_inj {a b:List UInt8}(h:J9 a=J9 b):a=b:=by
 unfold J9 at h
 simp only[Value.string.injEq,ByteArray.mk.injEq] at h
 have:=congrArg Array.toList h
 simpa using this
theorem Om {x y:Int}(hx:0≤x∧x<64)(hy:0≤y∧y<64)(h:UInt8.ofNat x.toNat=UInt8.ofNat y.toNat):x=y:=by
 have:=congrArg UInt8.toNat h
 simp only[UInt8.toNat_ofNat'] at this
 omega
theorem bytes_inj:∀ {a b:List Int},yB a→yB b→a.map (fun n=>UInt8.ofNat n.toNat)=b.map (fun n=>UInt8.ofNat n.toNat)→a=b
 | [],[],_,_,_=>rfl
 | [],_ :: _,_,_,h=>by cases h
 | _ :: _,[],_,_,h=>by cases h
 | x :: a, y :: b, ha, hb, h => by
   simp only[aaL,List.cons.injEq] at h
   rw[Om (ha x Z7) (hb y Z7) h.1,bytes_inj (fun z hz=>ha z (aac _ hz)) (fun z hz=>hb z (aac _ hz)) h.2]
theorem ET {w:List Int}:w.all EB=true↔yB w:=by
 rw[aam]
 unfold yB EB
 simp only[aae,decide_eq_true_eq]
theorem EU {w:List Int}(h:yB w):qb w=w.map fun n=>UInt8.ofNat n.toNat:=if_pos (ET.2 h)
theorem QI {a w:List Int}(ha:yB a):qb a=qb w↔a=w:=by
 refine⟨fun h=>?_,fun h=>by rw[h]⟩
 rw[EU ha] at h
 by_cases hw:yB w
 · rw[EU hw] at h;exact bytes_inj ha hw h
 · have : qb w = Ig := if_neg (fun q => hw (ET.1 q))
   rw[this] at h
   match a,h with
   | x :: a, h =>
     simp only[aaL,Ig,List.cons.injEq] at h
     have h1:=congrArg UInt8.toNat h.1
     have:=ha x Z7
     simp only[UInt8.toNat_ofNat'] at h1
     have h2:(110:UInt8).toNat=110:=rfl
     omega
theorem QJ {F:List (List aY)}(hG:vE F)(w:List Int):cc F w=(aR F F.length 0).filter fun p=>decide ((bf F p).ah=w):=by
 unfold cc atKey
 refine List.filter_congr fun p _=>?_
 rw[decide_eq_decide]
 unfold iu
 exact⟨fun h=>(QI (hG.at p).lt).1 (str_inj h),fun h=>by rw[h]⟩
theorem GS {F:List (List aY)}(hG:vE F)(w:List Int):j8 F w=jx F w:=by
 unfold j8 jx kZ;rw[QJ hG]
theorem EV {F:List (List aY)}{w:List Int}{a:mh}(h:a∈jx F w):∃p∈aR F F.length 0,a=⟨(p.1:Nat),bf F p⟩∧a.form.ah=w:=by
 unfold jx kZ at h
 obtain⟨p,hp,rfl⟩:=aao.1 h
 have:=aaS.1 hp
 exact⟨p,this.1,rfl,of_decide_eq_true this.2⟩
theorem Iq {F:List (List aY)}(hG:vE F)(w:List Int):cJ (j8 F w) (j8 F w).length=tE F w:=by
 rw[GS hG]
 have hA:∀a∈jx F w,Good a.form∧a.form.ah=w:=fun a ha=>by
   obtain⟨p,_,rfl,h⟩:=EV ha
   exact⟨hG.at p,h⟩
 unfold tE
 generalize jx F w=l at hA
 by_cases h0:l.length=0
 · rw[if_pos h0,h0];rfl
 · rw [if_neg h0]
   unfold cJ
   rw[if_neg h0,aa1]
   have hm0:l.getD 0 default∈l:=ba ace
   obtain⟨g0,l0⟩:=hA _ hm0
   refine r9 (r:=(·<·)) (fun x y h h'=>by omega) (g0.pw.filter _) ?_ fun z=>?_
   · unfold kv
     refine ab0.2 (List.Pairwise.filter _ ?_)
     exact acb (fun h=>by omega) (List.pairwise_lt_range (n:=w.length+1))
   · unfold kv y9
     rw[aaS,aao,aa1]
     constructor
     · rintro ⟨h1, h2⟩
       have hb:=g0.bd z h1
       rw[l0] at hb
       refine⟨z.toNat,aaS.2 ⟨aap.2 ace,?_⟩,ace⟩
       rw[show((z.toNat:Nat):Int)=z by omega];exact h2
     · rintro ⟨c, hc, rfl⟩
       obtain⟨_,h2⟩:=aaS.1 hc
       refine⟨?_,h2⟩
       have:=aam.1 h2 _ hm0
       unfold qT at this
       obtain⟨y,hy,he⟩:=aay.1 this
       rw[←of_decide_eq_true he];exact hy
def gQ (n:Int):List UInt8:=if n≤9 then[UInt8.ofNat (48+n).toNat] else[UInt8.ofNat (48+n / 10).toNat,UInt8.ofNat (48+n % 10).toNat]
theorem nS (n:Int):(gQ n).length≤2:=by by_cases h:n≤9<;>simp[gQ,h]
theorem On {x:Int}(h:0≤x∧x<256):IntKind.u8.wrap x=x:=by
 have:IntKind.u8.wrap x=x % 256:=by
  simp only[IntKind.wrap,IntKind.bits,IntKind.signed]
  first|rfl|(simp;omega)|omega
 rw[this];omega
theorem Oo {l:List Int}{n:Nat}:l.drop (if(l.length:Int)<(n:Int) then(l.length:Int) else(n:Int)).toNat=l.drop n:=by
 split
 ·rw[abl,List.drop_length,aaU ace]
 ·rw[abl]
theorem iM.drop {l:List Int}(h:iM l)(n:Nat):iM (l.drop n):=fun x hx=>h x (aaE hx)
end Go.Wf
namespace Go.Proofs.YtlapahnodhmcpaaGreat
open Go.Am Go.Wb Go.Wc Go.Wf Go.We
abbrev YC:=dU 2 Tryz.func77
theorem Kn {n:Int}(hn:0≤n∧n<16):aq Tryz.prog 77 [int n] (.p (aj (MY.getD n.toNat default))):=by
 refine cF YC fun w0 M0 aa=>?_
 refine c6 [7,1] [3,4] [] ?_
 refine oP J (pb (f:=aj) (l:=MY) J Tryz.underlying27 Xv J J (by simp only[Z2,Z9];omega) (fun _=>rfl)) ?_
 refine wZ [8005] ?_
 rfl
abbrev YD:=dU 0 Tryz.func43
theorem yC:aq Tryz.prog 43 [] (.p (ah aN)):=by
 refine cF YD fun w0 M0 aa=>?_
 refine zM [17,8004] ?_
 rfl
abbrev YE:=dU 4 Tryz.func31
theorem AR {l:List Int}{n:Int}(hl:l.length≤9223372036854775807)(hn:0≤n∧n≤1000):aq Tryz.prog 31 [ints l,int n] (.fresh 3 ((l.take n.toNat).map int)):=by
 have hmin:(if n<(l.length:Int) then n else(l.length:Int)).toNat≤1000:=by split<;>omega
 refine cF YE fun w0 M0 aa=>?_
 refine c6 [1002,1004,7,1] [6,7,9,10] [5] ?_
 refine oP J (CR J J J) ?_
 refine oP J (sD J Tryz.underlying22 y3 J J (by simp only[Z0];omega) (mB fun _=>rfl)) ?_
 refine wA [0] [6,12] [5] ?_
 refine oS J (step_append J J J J Tryz.underlying22 Ux J J aa (K3 J (fun _=>⟨_,rfl⟩)) (by simp only[Z0,aaa,Z9];omega) (by simp only[Z0,aaa,Z9];omega)) J ?_
 refine wZ [8004] ?_
 rw[MZ];rfl
abbrev YF:=dU 2 Tryz.func44
theorem zd {l:List Int}(hl:l.length≤9223372036854775807)(h64:iM l):aq Tryz.prog 44 [ints l] (.fresh 143 ((ar l).map FV)):=by
 have a0:=k9 (l:=l) (i:=0) (most:=6) acg
 have a1:=k9 (l:=l) (i:=1) (most:=16) acg
 refine cF YF fun w0 M0 aa=>?_
 refine c6 [1002,5] [0,8] [] ?_
 refine oC J J J J (iD ach ace) ?_
 refine wA [0,6] [0,3,11] [] ?_
 refine oC J J J J (iD ach ace) ?_
 refine wA [1005,9] [0,3,4,5,6] [5] ?_
 refine lp (fun zm zs=>∃i:Nat,zm=(3+mr l 0 6).toNat-i∧(i≤(3+mr l 0 6).toNat)∧zs=⟨64,[(0,vvz (ints l)),(3,vvw (int (3+mr l 0 6))),(4,vvw (int (mr l 1 16))),(5,.own 5),(6,vvw (int i))],[(5,.arr 143 ((l4 l (mr l 1 16) i).map FV))]⟩) ?_ ?_
 exact⟨_,0,rfl,Z5 _,rfl⟩
 rintro zm zs ⟨i,rfl,aZ,rfl⟩
 have b1:=k9 (l:=l) (i:=2+i) (most:=9) acg
 have b2:=k9 (l:=l) (i:=10+i) (most:=3) acg
 have b3:=k9 (l:=l) (i:=30+i) (most:=4) acg
 have b4:=k9 (l:=l) (i:=40+i) (most:=2) acg
 have b5:=fun h:0<(i:Int)=>k9 (l:=l) (i:=20+i) (most:=i) h
 have b6:=oB l (mr l 1 16) i
 refine wS [3008] [0,3,4,5,6,15] [5] ?_ ?_<;>intro h1
 refine wA [9,0,0] [0,3,4,5,6,21] [5] ?_
 refine oC J J J J (Kn ace) ?_
 refine wZ [3,5000] ?_
 refine oC J J J J (iD ach ace) ?_
 refine wS [0,4011] [0,3,4,5,6,7,32] [5,7] ?_ ?_<;>intro h2'
 refine wZ [2,5000] ?_
 refine oC J J J J (iD ach ace) ?_
 refine wS [3004] [0,3,4,5,6,7,38] [5,7] ?_ ?_<;>intro h3
 refine wA [6,1] [0,3,4,5,6,7,39,40,42,43] [5,7] ?_
 refine oC J J J J (iD ach ace) ?_
 refine oP J (aD J Tryz.underlying23 UQ J J J (by simp only[Z0];have:=b5 ace;omega)) ?_
 refine wA [0] [0,3,4,5,6,7,45] [5,7] ?_
 refine oP J (lO J PX J J) ?_
 refine oP J (e9 J PL J J (ix (by have:=b5 ace;omega)) J) ?_
 refine wZ [8,5000] ?_
 refine oC J J J J (iD ach ace) ?_
 refine wZ [7,5000] ?_
 refine oC J J J J (iD ach ace) ?_
 refine wA [7,1000,6,9002] [0,3,4,5,6] [5] ?_;rotate_left
 refine wA [6,1000,6,9002] [0,3,4,5,6] [5] ?_;rotate_left
 refine wA [14,1000,6,9002] [0,3,4,5,6] [5] ?_;rotate_left
 refine wZ [8013] ?_
 rw[ar,show i=(3+mr l 0 6).toNat by omega]
 all_goals
  exact⟨_,⟨i+1,rfl,ace,by rw[l4,Z8,ab5,HI];first|(rw[if_pos ⟨ace,ace⟩];rfl)|(rw[if_neg ace];rfl)⟩,ace⟩
abbrev YG:=dU 4 Tryz.func45
theorem kx {l:List Int}{n:Nat}(hl:l.length≤9223372036854775807)(hn:n≤1000):aX Tryz.prog 45 [ints l,int n] (.p (ints (l.drop n))):=by
 have hmin:(if(l.length:Int)<(n:Int) then(l.length:Int) else(n:Int)).toNat≤l.length:=by split<;>omega
 refine cN YG fun w0 M0 aa=>?_
 refine zM [10,5000] ?_
 refine oP J (CR J J J) ?_
 refine wA [0] [5,9] [] ?_
 refine oP J (na J Tryz.underlying22 y3 J J (by split<;>omega) (fun _=>rfl)) ?_
 refine wZ [8004] ?_
 rw[Oo]
abbrev YH:=dU 2 Tryz.func66
theorem jI {n:Int}(hn:0≤n∧n≤99):aX Tryz.prog 66 [int n] (.p (aj (gQ n))):=by
 refine cN YH fun w0 M0 aa=>?_
 refine c6 [12] [0,3] [] ?_
 refine lp (fun zm zs=>∃(q:Int)(s:List UInt8),zm=q.toNat∧(0≤q)∧(s.length≤1)∧((q=n∧s=[])∨(9<n∧q=n / 10∧s=[UInt8.ofNat (48+n % 10).toNat]))∧zs=⟨23,[(0,vvw (int q)),(3,vvw (aj s))],[]⟩) ?_ ?_
 exact⟨_,n,[],rfl,hn.1,Z5 _,.inl ⟨rfl,rfl⟩,rfl⟩
 rintro zm zs ⟨q,s,rfl,aZ,au,cX,rfl⟩
 refine wS [3007] [0,3,5] [] ?_ ?_<;>intro h1
 refine wA [7,0,0] [0,3,8] [] ?_
 refine oP J (dF (a':=(48+q % 10)) (nn J Tryz.underlying3 Tryz.underlying5 J) (On ace)) ?_
 refine wA [0,0] [0,3,10] [] ?_
 refine oP J (tN J Tryz.underlying149 Tryz.underlying5 Tryz.underlying9 J J) ?_
 refine wA [1] [0,11,12] [] ?_
 refine oP J (jz J J J (by simp only[Z0,Z2,Z9];omega)) ?_
 refine wA [5,9003] [0,3] [] ?_
 have hq:q=n∧s=[]:=cX.elim id (fun h=>by omega)
 obtain⟨rfl,rfl⟩:=hq
 exact⟨_,⟨q / 10,[UInt8.ofNat (48+q % 10).toNat],rfl,ace,Z1 _,.inr ⟨ace,rfl,rfl⟩,rfl⟩,ace⟩
 refine wZ [9,5000] ?_
 refine oP J (dF (a':=(48+q)) (nn J Tryz.underlying3 Tryz.underlying5 J) (On ace)) ?_
 refine wZ [0,5000] ?_
 refine oP J (tN J Tryz.underlying149 Tryz.underlying5 Tryz.underlying9 J J) ?_
 refine wA [1] [20,21] [] ?_
 refine oP J (jz J J J (by simp only[Z0,Z2,Z9];omega)) ?_
 refine wZ [8004] ?_
 rcases cX with⟨rfl,rfl⟩|⟨h1,rfl,rfl⟩
 ·unfold gQ;rw[if_pos ace];rfl
 ·unfold gQ;rw[if_neg ace];rfl
end Go.Proofs.YtlapahnodhmcpaaGreat
