/-
  Part of the proof.
-/
import Derived.Test.YtlapahnodhmcpaaGreatJ0
import Derived.Test.YtlapahnodhmcpaaGreatJ16
import Derived.Test.YtlapahnodhmcpaaGreatJ34
import Derived.Test.YtlapahnodhmcpaaGreatJ27
import Derived.Test.YtlapahnodhmcpaaGreatJ17
import Derived.Test.YtlapahnodhmcpaaGreatJ23
import Derived.Test.YtlapahnodhmcpaaGreatJ20
import Derived.Shelf.SlSortCmp.Whole1
import Derived.Test.YtlapahnodhmcpaaGreatJ31
set_option linter.unusedVariables false
set_option linter.unusedSectionVars false
set_option linter.unusedSimpArgs false
set_option maxRecDepth 100000
set_option maxHeartbeats 40000000
namespace Go.Wf
open Go.Am Go.Wb Go.Wc
def fa (F:List (List aK))(E:List (Nat×Nat)):List (List Int):=E.map fun p=>(a8 F p).af
def vL (l:List (List Int)):List (List Int):=l.mergeSort fun x y=>!decide (bA y x<0)
theorem vf {l:List (List Int)}{x:List Int}:x∈vL l↔x∈l:=(List.mergeSort_perm l _).mem_iff
theorem KY (l:List (List Int)):(vL l).length=l.length:=List.length_mergeSort l
def Rl (F:List (List aK)):List (List Int):=sO (fun x y=>decide (x=y)) (vL (fa F (aO F F.length 0)))
theorem FI {F:List (List aK)}(hF:sF F)(E:List (Nat×Nat)):∀x∈fa F E,x.length≤1048576:=fun x hx=>by obtain⟨p,_,rfl⟩:=aaG.1 hx;exact(gP hF p).af
theorem pj (F:List (List aK))(E:List (Nat×Nat)):(fa F E).length=E.length:=aai _
theorem v7 (x:List Int):¬bA x x<0:=by have:=kB x x;omega
theorem mH {x y:List Int}(h:¬bA x y<0)(h':¬bA y x<0):x=y:=mV x y (by have:=kB x y;omega)
end Go.Wf
namespace Go.Proofs.YtlapahnodhmcpaaGreat
open Go.Am Go.Wb Go.Wc Go.Wf Go.We Go.RowKit Go.MapKept Go.Shelf
theorem Um:NO Tryz.prog 56 :=
 ⟨⟨Tryz.f56, Tryz.func56, acL, acL⟩,
  fun p cap fv w=>AnyF.slices_SortFunc_none { Tryz.vL with } p cap fv w,
  fun enc h1 cf hO g cb blk off cap d w eg hcmp hH hblk hsz=>Any.slices_SortFunc Tryz.vL enc h1 cf hO g cb blk off cap d w eg hcmp hH hblk hsz⟩
abbrev Zr:=dF 4 Tryz.func58
theorem zY {l:List (List Int)}{eq:List Int→List Int→Bool}{g:FuncId}(hl:l.length≤1099511627776)(hf:∀x∈l,∀y∈l,ak Tryz.prog g [ints x,ints y] (.p (bool (eq x y)))) :
  lz Tryz.prog 58 [.own 0,vvw (.clo g [])] [(0,.arr 22 (l.map ints))] (.own 0) [(0,.arr 22 ((sO eq l).map ints))]:=by
 refine gK Zr (aah J) fun w0 M0 aa=>?_
 refine pW [9,3003] [0,1,10] [0] ?_ ?_<;>intro h1;refine wZ [9] ?_;refine ew (o1:=[(0,_)]) J ⟨rfl,trivial⟩ ?_;rw[uB acK];exact⟨rfl,rfl⟩;refine wA [10] [0,1,5] [0] ?_;refine lp (fun zm zs=>∃q:Nat,zm=l.length-q∧(1≤q)∧(q≤l.length)∧(en (eq) l q=l.take q)∧zs=⟨66,[(0,.own 0),(1,vvw (.clo g [])),(5,vvw (int q))],[(0,.arr 22 (l.map ints))]⟩) ?_ ?_;exact⟨_,1,rfl,aak _,acK,by rw[tk,bD acK];rfl,rfl⟩;rintro zm zs ⟨q,rfl,aY,aq,cY,rfl⟩;have e0:((q:Int)-1).toNat=q-1:=acK;refine wS [5,3003] [0,1,5,15] [0] ?_ ?_<;>intro h2;refine wZ [2006,6003,6000,6002,6000,6000,5000] ?_;refine oE J J J J J J (hf _ (aM acK) _ (aM acK)) ?_;refine wS [3002] [0,1,5,28] [0] ?_ ?_<;>intro h3;refine wA [5] [0,1,5,29,30] [0] ?_;refine oP J (dU J Tryz.underlying52 Cw J J J (by first|(simp only[ll];omega)|omega)) ?_;refine wA [10] [0,1,5,6,7] [0] ?_;refine lp (fun zm zs=>∃(ys:List (List Int))(k j:Nat),zm=l.length-q-j∧(1≤j)∧(q+j≤l.length)∧(ys.length=l.length)∧(en (eq) l (q+j)=ys.take k)∧(k+1≤q+j)∧(∀i,q+j≤i+1→ys.getD i default=l.getD i default)∧(∀x∈ys,x∈l)∧zs=⟨66,[(0,.own 0),(1,vvw (.clo g [])),(5,vvw (int k)),(6,.vsl 0 q ((l.map ints).length-q)),(7,vvw (int j))],[(0,.arr 22 (ys.map ints))]⟩) ?_ ?_;rw[e0] at h3;exact⟨_,l,q,1,rfl,aak _,acK,rfl,(nN acK (h3)).trans cY,aak _,fun i _=>rfl,fun x hx=>hx,rfl⟩;rintro zm zs ⟨ys,k,j,rfl,fu,gi,nc,qt,Sp,iz,tI,rfl⟩;refine wS [5,3003] [0,1,5,6,7,35] [0] ?_ ?_<;>intro h4;refine wZ [2006,6003,6000,6002,6000,6000,5000] ?_;refine oE J J J J J J (hf _ (tI _ (aM acK)) _ (tI _ (aM acK))) ?_;refine wS [3003] [0,1,5,6,7,49] [0] ?_ ?_<;>intro h5;refine wZ [7,0,0,5000] ?_;refine oS J (ay J J J Cw J J (iC (by first|(simp only[ll];omega)|omega)) J J (.inl J) J (aah J) aa) J ?_;refine wA [4,6,9002] [0,1,5,6,7] [0] ?_;have e1:((j:Int)-1).toNat=j-1:=acK;rw[e1,iz (q+j) acK,iz (q+(j-1)) acK] at h5;refine⟨_,⟨ys.set k (l.getD (q+j) default),k+1,j+1,rfl,acK,acK,by simpa using nc,B7 acK qt ?_,acK,fun i hi=>?_,fun x hx=>?_,?_⟩,acK⟩
 ·rw[show q+j-1=q+(j-1) by omega];exact h5
 ·rw[lK acK];exact iz i acK
 ·rcases List.mem_or_eq_of_mem_set hx with hx|rfl
  ·exact tI x hx
  ·exact aM acK
 ·rw[List.map_set,←iz (q+j) acK];rfl
 refine wA [6,9002] [0,1,5,6,7] [0] ?_;have e1:((j:Int)-1).toNat=j-1:=acK;rw[e1,iz (q+j) acK,iz (q+(j-1)) acK] at h5;refine⟨_,⟨ys,k,j+1,rfl,acK,acK,nc,xW acK qt ?_,acK,fun i hi=>iz i acK,tI,rfl⟩,acK⟩;rw[show q+j-1=q+(j-1) by omega];exact h5;refine wA [10] [0,5,59,60] [0] ?_;refine oP J (dU J Tryz.underlying52 Cw J J J (by first|(simp only[ll];omega)|omega)) ?_;refine oS J (jW (zv:=.sc (.slice none 0 0)) J J J Tryz.underlying52 Cw J J Vh acM J J aa) J ?_;refine wA [6] [62,63] [0] ?_;refine oP J (ib J Tryz.underlying52 Cw J J J (by first|(simp only[ll];omega)|omega)) ?_;refine pN 64 J J aa J ?_;refine Gt [9] ?_;refine ew (o1:=[(0,_)]) J ⟨rfl,trivial⟩ ?_;refine⟨rfl,?_⟩;rw[←B8 (f:=ints) (k:=k) (n:=q+j) acK acK qt];rfl;refine wA [6,9002] [0,1,5] [0] ?_;rw[e0] at h3;exact⟨_,⟨q+1,rfl,acK,acK,uC acK cY (h3),rfl⟩,acK⟩;refine wZ [13] ?_;refine ew (o1:=[(0,_)]) J ⟨rfl,trivial⟩ ?_;rw[B9 (n:=q) acK cY];exact⟨rfl,rfl⟩
noncomputable abbrev HA (F:List (List aK))(E:List (Nat×Nat)):List (Nat×Ob):=[(15,.arr 22 ((fa F E).map ints)),(1000000,.box 52 [.own 15])]
theorem KZ {l:List cy}{F:List (List aK)}{z:Nat}{rec:Loop}(hF:sF F)
  (hY:∀i k,i<F.length→k<(F.getD i default).length→L7 Tryz.prog z rec [3] [vvw (jz (i,k)),vvw (fQ (a8 F (i,k)))] [.pbox 1000000 0] (HA F (aO F i k)) (HA F (aO F i (k+1)))) :
  Au Tryz.prog 82 z rec [.hid (yR z rec [3]) [.bx 1000000],vvw (.pc [pD l F] 0)] (HA F (aO F 0 0)) (HA F (aO F F.length 0)):=by
 refine mf Xf (aah J) fun w0 M0 aa hmd L9 hwl=>?_
 refine c4 [3,2,4] [0,10,11,12] [15,1000000] ?_;refine lp (fun zm zs=>∃i:Nat,zm=F.length-i∧(i≤F.length)∧zs=⟨33,[(0,.hid (yR z rec [3]) [.bx 1000000]),(10,vvw (.sl (F.map bU))),(11,vvw (int F.length)),(12,vvw (int i))],[(15,.arr 22 ((fa F (aO F i 0)).map ints)),(1000000,.box 52 [.own 15])]⟩) ?_ ?_;exact⟨_,0,rfl,aan _,rfl⟩;rintro zm zs ⟨i,rfl,aY,rfl⟩;have XF:=hF.n;refine wS [3006] [0,10,11,12,13] [15,1000000] ?_ ?_<;>intro h1;refine wA [8,8,4] [0,3,10,11,12,17,18,19] [15,1000000] ?_;refine lr (fun zl zo zm zs=>∃k:Nat,zm=(F.getD i default).length-k∧(k≤(F.getD i default).length)∧zs=eJ 33 [(19,vvw (int k))] zl [(15,.arr 22 ((fa F (aO F i k)).map ints)),(1000000,.box 52 [.own 15])] zo) ?_ ?_;exact⟨_,0,rfl,aan _,rfl⟩;rintro zm zs ⟨k,rfl,fu,rfl⟩;have hrow:=hF.row (F.getD i default) (aM acK);refine wS [3006] [0,3,10,11,12,17,18,19,20] [15,1000000] ?_ ?_<;>intro h2;refine wA [8,7] [0,3,5,6,10,11,12,17,18,19] [6,15,1000000] ?_;refine yG 5 hmd J ?_;refine wZ [6] ?_;refine⟨_,sd [] J J J J J J J (hY i k acK acK) L9 hwl ⟨.inl J,.inl J,trivial⟩ ⟨.inl J,trivial⟩ ⟨rfl,rfl,trivial⟩ J J J J aa,?_⟩;refine wA [8,9002] [0,3,10,11,12,17,18,19] [15,1000000] ?_;exact⟨_,⟨k+1,rfl,acK,rfl⟩,acK⟩;refine wA [8,9002] [0,10,11,12] [15,1000000] ?_;obtain rfl:k=(F.getD i default).length:=acK;exact⟨_,⟨i+1,rfl,acK,by rw[←y8 J];rfl⟩,acK⟩;refine wZ [5] ?_;refine ec (o1:=[(15,_),(1000000,_)]) ⟨rfl,rfl,trivial⟩ ?_
 first|(obtain rfl:i=F.length:=by omega);rfl
abbrev Zs:=dF 2 Tryz.func27
theorem v8 {l:List cy}{F:List (List aK)}(hF:sF F):aU Tryz.prog 27 [pD l F] (.p (ly (Rl F))):=by
 have hln:=pj F (aO F F.length 0);have hls:=pg hF (aak F.length) (aan _);have hlm:=FI hF (aO F F.length 0);refine xL Zs (aah J) fun w0 M0 aa hmd=>?_
 refine c4 [12] [0,3] [3] ?_;refine bG 3 0 15 22 52 aa J J J J ?_;refine gz [2] [3,6] [3,15] ?_;refine oN J J J J J (Xe) ?_;refine wA [3] [3,7] [3,15] ?_;refine XQ [(15,15),(1000000,3)] (HA F (aO F 0 0)) (HA F (aO F F.length 0)) [3] [.bx 1000000] hmd aa (fun zl zr q1 q2 q3 q4 q5 q6=>KZ (l:=l) (F:=F) hF (fun i k hi hk=>BW (n:=20) (p:=8) (q:=9) (ts:=[3]) q1 q2 q3 q4 q5 q6 J (fun w0 M0 aa hmd0=>?_))) J J J ⟨.inl J,trivial⟩ ⟨.inl J,trivial⟩ ⟨rfl,rfl,trivial⟩ J J J J J ?_;refine AD [4] ?_;intro w0 M0 aa hmd0;refine c4 [1] [3,5] [5,15,1000000] ?_;refine ao.imp (jI 1000000 0 40 aa J J J J J J J J J) ?_;refine gz [0] [3,5] [5,40,1000000] ?_;refine dC [5] [[(5,.box 64 [vvw (ah (a8 F (i,k)).cell),vvw (ints (a8 F (i,k)).af),vvw (ints (a8 F (i,k)).cuts),vvw (strs (a8 F (i,k)).rules)]),(40,.arr 22 ((fa F (aO F i k)).map ints)),(1000000,.box 52 [.own 40])],[(5,.box 64 [vvw (ah (a8 F (i,k)).cell),vvw (ints (a8 F (i,k)).af),vvw (ints (a8 F (i,k)).cuts),vvw (strs (a8 F (i,k)).rules)]),(15,.arr 22 ((fa F (aO F i k)).map ints++[ints (a8 F (i,k)).af])),(1000000,.box 52 [.dead])]] 6 [(0,[0]),(1,[0]),(2,[0])] [(10,.own 40),(11,.pbox 5 1),(12,vvw (ints (a8 F (i,k)).af)),(13,vvw (ints (a8 F (i,k)).af)),(14,vvw (.sl [ints (a8 F (i,k)).af])),(15,.own 15),(3,.pbox 1000000 0),(5,.pbox 5 0)] (ai (ai (ae J Yv J J J) (trivial)) (ai (ai nH (trivial)) (ai (ai (ae J Kl J J J) (trivial)) (ai (fun _=>(bg J J J ((ak.weaken (fj (l:=(a8 F (i,k)).af) (by have:=(gP hF (i,k)).af;omega)))) aa)) (ai bS trivial))))) (ai (fun X e7 dH c6=>dd (T:=52) (t:=15) (u:=10) (id:=40) (y:=.tmp 14) J J J e7 Tryz.underlying52 sx ((c6 10 acM).trans J) J (cI (jX ((c6 14 acM).trans J)) (bW (by rfl))) (by rw[aai,pj];have hrw:=hF.row (F.getD i default) (aM hi);have:=pg hF (i:=i) (k:=k) acK acK;simp only[aam,aat];omega) (by rw[aai,pj];have hrw:=hF.row (F.getD i default) (aM hi);have:=pg hF (i:=i) (k:=k) acK acK;simp only[aam,aat];omega) J dH J J J aa) (trivial)) ?_;refine bM (n:=1) acL ?_;refine aJ (i:=6) acL J J (aV J J J Yu J J J J J aa) ?_;refine bf acL ?_;refine Db [1] ?_;refine cP (o1:=[(15,_),(1000000,_)]) ⟨rfl,rfl,trivial⟩ ?_
 focus (unfold HA fa;rw[u6,aas,aas];first|done|rfl)
 refine wA [5] [3,16] [3,15] ?_;refine oS J (GR (f0:=ints) (cf:=bA) (p:=fun x=>x.length≤1048576) (l:=(fa F (aO F F.length 0))) Um J J J J J J J Cw (fun _=>rfl) hlm (fun a b ha hb=>nw acK acK) ⟨Tryz.f57,Tryz.func57,acL,acL⟩ (fun a _=>v7 a) (fun a b c _ _ _=>jZ a b c) (fun a b _ _=>mH) acK aa) J ?_;refine wA [5] [18] [15] ?_;refine oS J (aP [(0,15)] J J J J J J J (zY (eq:=fun x y=>decide (x=y)) (l:=vL (fa F (aO F F.length 0))) (by rw[KY];omega) (fun x hx y hy=>qu (by have:=hlm x (vf.1 hx);omega) (by have:=hlm y (vf.1 hy);omega))) ⟨.inl J,.inl J,trivial⟩ ⟨rfl,trivial⟩ J J J J J aa) J ?_;refine ku 20 [(19,_)] [] aa J ⟨.inr ⟨_,_,rfl,rfl,rfl⟩,trivial⟩ trivial ?_;refine Gt [8004] ?_;rfl
end Go.Proofs.YtlapahnodhmcpaaGreat
namespace Go.Wf
open Go.Am Go.Wb Go.Wc
theorem sG {α:Type}{r:α→α→Prop}(hr:∀x y,r x y→¬r y x):∀{a b:List α},a.Pairwise r→b.Pairwise r→(∀x,x∈a↔x∈b)→a=b
 | [],[],_,_,_=>rfl
 | [],y :: b,_,_,h=>absurd ((h y).2 aaq) (by simp)
 | x :: a,[],_,_,h=>absurd ((h x).1 aaq) (by simp)
 | x :: a, y :: b, ha, hb, h => by
   rw[aa2] at ha hb;have hxy:x=y:=by
     rcases aaC.1 ((h x).1 aaq) with h1|h1
     · exact h1
     · rcases aaC.1 ((h y).2 aaq) with h2 | h2
       · exact h2.symm
       · exact absurd (hb.1 x h1) (hr _ _ (ha.1 y h2))
   subst hxy;have:a=b:=sG hr ha.2 hb.2 fun z=>⟨fun hz=>by
     rcases aaC.1 ((h z).1 (aav _ hz)) with h1|h1
     · subst h1;exact absurd (ha.1 z hz) (hr _ _ (ha.1 z hz))
     · exact h1,fun hz=>by
     rcases aaC.1 ((h z).2 (aav _ hz)) with h1|h1
     · subst h1;exact absurd (hb.1 z hz) (hr _ _ (hb.1 z hz))
     · exact h1⟩
   rw[this]
theorem vh:∀ a b:List Int,mL a b=decide (bA a b<0)
 | [],[]=>rfl
 | [],_ :: _=>rfl
 | _ :: _,[]=>rfl
 | x :: a, y :: b => by
   have ih:=vh a b;by_cases h:x=y
   · subst h
     have e:bQ x x=0:=by unfold bQ;rw[if_neg acK,if_neg acK]
     rw[mL,if_pos rfl,ih,bA,e];rfl
   · rw [mL, if_neg h, bA]
     by_cases h2:x<y
     · rw[show bQ x y=-1 from if_pos h2,decide_eq_true h2];rfl
     · rw[show bQ x y=1 from(if_neg h2).trans (if_pos acK),decide_eq_false h2];rfl
def rL (a b:List Int):Prop:=bA a b<0
theorem OP (a b:List Int)(h:rL a b):¬rL b a:=by have:=kB a b;unfold rL at *;omega
theorem OQ {l:List (List Int)}{x z:List Int}:z∈lu l x↔z∈l∨z=x:=by
 constructor
 · exact w8
 · induction l with
   | nil =>
     rintro(h|rfl)
     · cases h
     · exact aaq
   | cons y l ih =>
     intro h;unfold lu;split
     · rcases h with h | h
       · rcases aaC.1 h with h | h
         · rw[h];exact aaq
         · exact aav _ (ih (.inl h))
       · exact aav _ (ih (.inr h))
     · split
       · next he =>
         rcases h with h|h
         · exact h
         · rw[h,he];exact aaq
       · rcases h with h | h
         · exact aav _ h
         · rw[h];exact aaq
theorem OR:∀ {l:List (List Int)}{x:List Int},l.Pairwise rL→(lu l x).Pairwise rL
 | [],x,_=>abR _ _
 | y :: l, x, h => by
   have h':=aa2.1 h;unfold lu;split
   · next hb =>
     rw[vh,decide_eq_true_eq] at hb;refine aa2.2 ⟨fun z hz=>?_,OR h'.2⟩;rcases w8 hz with h1|h1
     · exact h'.1 z h1
     · rw[h1];exact hb
   · next hb =>
     split
     · exact h
     · next he =>
       rw[vh] at hb;have hb:¬bA y x<0:=by simpa using hb
       have hx:rL x y:=by
         by_cases h2:bA x y<0
         · exact h2
         · exact absurd (mH hb h2) he
       refine aa2.2 ⟨fun z hz=>?_,h⟩;rcases aaC.1 hz with h1|h1
       · rw[h1];exact hx
       · exact jZ _ _ _ hx (h'.1 z h1)
theorem OS (F:List (List aK))(i k:Nat):(ko F i k).Pairwise rL:=by unfold ko;refine iq (C:=fun l=>(l.foldl (fun o p=>lu o (a8 F p).af) []).Pairwise rL) List.Pairwise.nil (fun l p ih=>?_) _;rw[abB];exact OR ih
variable{F:List (List aK)}
theorem vi {i k:Nat}{z:List Int}:z∈ko F i k↔z∈fa F (aO F i k):=by unfold ko fa;refine iq (C:=fun l=>z∈l.foldl (fun o p=>lu o (a8 F p).af) []↔z∈l.map fun p=>(a8 F p).af) Iff.rfl (fun l p ih=>?_) _;rw[abB,aas,aaU,←ih,acD,aay];exact OQ
def HB (x y:List Int):Bool:=!decide (bA y x<0)
theorem K0 (a b c:List Int)(h:HB a b=true)(h':HB b c=true):HB a c=true:=by
 unfold HB at *;simp only[aa5,decide_eq_false_iff_not] at *;intro h2;by_cases h3:bA a b<0
 ·exact h' (jZ _ _ _ h2 h3)
 ·rw[mH h3 h] at h2;exact h' h2
theorem K1 (a b:List Int):(HB a b||HB b a)=true:=by
 unfold HB;have:=kB a b;rcases Int.lt_or_le (bA b a) 0 with h|h
 ·rw[decide_eq_false (p:=bA a b<0) acK,Bool.not_false,Bool.or_true]
 ·rw[decide_eq_false (p:=bA b a<0) acK];rfl
theorem OT (l:List (List Int)):(vL l).Pairwise fun x y=>HB x y=true:=List.pairwise_mergeSort K0 K1 l
theorem OU (a:List Int):HB a a=true:=by unfold HB;rw[decide_eq_false (v7 a)];rfl
theorem zd {l:List (List Int)}(h:l.Pairwise fun x y=>HB x y=true):∀i,i≤l.length→(en (fun x y=>decide (x=y)) l i).Pairwise rL∧∀z,z∈en (fun x y=>decide (x=y)) l i↔z∈l.take i
 | 0,_=>⟨List.Pairwise.nil,fun z=>Iff.rfl⟩
 | i + 1, hi => by
   obtain⟨h1,h2⟩:=zd h i acK;have hle:∀j k,j≤k→k<l.length→HB (l.getD j default) (l.getD k default)=true:=fun j k hj hk=>by
     rw[eh (show j<l.length by omega),eh hk];rcases Nat.eq_or_lt_of_le hj with q|q
     · subst q;exact OU _
     · exact abX.1 h j k _ _ q
   by_cases hd:0<i∧l.getD i default=l.getD (i-1) default
   · rw [nN hd.1 (decide_eq_true hd.2)]
     refine⟨h1,fun z=>(h2 z).trans ?_⟩;rw[take_succ (show i<l.length by omega),aaU,aay];refine⟨.inl,fun q=>q.elim id fun q=>?_⟩;rw[q,hd.2,List.mem_take_iff_getElem];exact⟨i-1,acK,(eh acK).symm⟩
   · have hn : en (fun x y => decide (x = y)) l (i + 1) = en (fun x y => decide (x = y)) l i ++ [l.getD i default] := by
       rw[en,if_neg (fun q=>hd ⟨q.1,of_decide_eq_true q.2⟩)]
     rw[hn];refine⟨List.pairwise_append.2 ⟨h1,abR _ _,fun c hc y hy=>?_⟩,fun z=>?_⟩
     · rw [aay.1 hy]
       obtain⟨j,hj,rfl⟩:=List.mem_take_iff_getElem.1 ((h2 c).1 hc);have hj':j<i:=acK;have e:l[j]'acK=l.getD j default:=(eh acK).symm;rw[e];have q1:=hle j i acK acK;by_cases h3:bA (l.getD j default) (l.getD i default)<0
       · exact h3
       · have q1' : ¬ bA (l.getD i default) (l.getD j default) < 0 := by unfold HB at q1; simpa using q1
         have e2:=mH h3 q1';have q2:=hle j (i-1) acK acK;have q3:=hle (i-1) i acK acK;rw[e2] at q2;have q2':¬bA (l.getD (i-1) default) (l.getD i default)<0:=by unfold HB at q2;simpa using q2
         have q3':¬bA (l.getD i default) (l.getD (i-1) default)<0:=by unfold HB at q3;simpa using q3
         exact absurd ⟨acK,mH q3' q2'⟩ hd
     · rw[aaU,h2 z,take_succ (show i<l.length by omega),aaU]
theorem OV (F:List (List aK)):Rl F=og F:=by
 unfold Rl og sO;obtain⟨h1,h2⟩:=zd (OT (fa F (aO F F.length 0))) _ (aak _);refine sG OP h1 (OS F F.length 0) fun z=>(h2 z).trans ?_
 rw[abj,vf,vi]
structure Good (f:aK):Prop where
 lt:∀x∈f.af,0≤x∧x<64
 pw:f.cuts.Pairwise (·<·)
 bd:∀c∈f.cuts,0<c∧c<f.af.length
def zf (w:List Int):Prop:=∀x∈w,0≤x∧x<64
variable{w:List Int}
theorem OW {r:aF}(h:zf w):zf (bp r w):=by
 unfold bp;split
 · next hk =>
   rw[aax] at hk;have hr:=hk.1;unfold bI at hr;simp only[aax] at hr;have hp:=aaF.1 hr.1.2;intro x hx;obtain⟨i,hi,hx⟩:=abP.1 hx;have hw:0≤w.getD i default∧w.getD i default<64:=h _ (aM (aaI.1 hi));split at hx
   · next p hpo =>
     split at hx
     · have hm : p ∈ r.pairs := abT hpo
       have:=hp p hm;unfold jv fL at this;simp only[aax] at this;exact GZ (aaF.1 this.2 x hx)
     · rw[aay.1 hx];exact hw
   · rw[aay.1 hx];exact hw
 · exact h
theorem OX:∀ {l:List aF}{w:List Int},zf w→zf (wK w l)
 | [],w,h=>h
 | r :: l,w,h=>OX (l:=l) (OW h)
theorem OY {o x:List Int}(ho:zf o)(hx:zf x):zf (lf o x):=by
 unfold lf;split
 · exact ho
 · split
   · exact hx
   · intro y hy
     rcases aaU.1 hy with hy|hy
     · rcases aaU.1 hy with hy | hy
       · exact ho y hy
       · rw[aay.1 hy];decide
     · exact hx y hy
theorem OZ {l:List (List Int)}(h:∀x∈l,zf x):zf (iI l):=by
 have key:∀(l:List (List Int))(o:List Int),(∀x∈l,zf x)→zf o→zf (l.foldl lf o):=by
  intro l
  induction l with
  | nil=>intro o _ h;exact h
  | cons x l ih=>intro o h ho;exact ih _ (fun y hy=>h y (aav _ hy)) (OY ho (h x aaq))
 exact key l [] h (fun x hx=>by cases hx)
variable{l:List Int}
theorem sH (h:gE l=true):zf l:=fun x hx=>by have:=aaF.1 h x hx;unfold KJ at this;simp only[aax,decide_eq_true_eq] at this;omega
theorem K2 (l:List Int)(x:Int):fw (l++[x])=x:=by unfold fw;rw[aar,show l.length+[x].length-1=l.length from rfl,aag,aaE (aak _),ach];rfl
theorem Rm {i:Nat}(h:i<w.length):nL w i≤nL w (i+1):=by
 by_cases q:w.getD i default=63
 ·rw[w6 h q];exact Int.le_refl _
 ·rw[CM h q];omega
theorem O0 (w:List Int):∀ i,i≤w.length→(e8 w i).Pairwise (·<·)∧(∀ c∈e8 w i,0<c∧c≤fw (e8 w i)∧c<((gX w).length:Nat))∧(0<(e8 w i).length→fw (e8 w i)≤nL w i)
 | 0,_=>⟨List.Pairwise.nil,(fun c hc=>by cases hc),(fun h=>by cases h)⟩
 | i + 1, hi => by
   obtain⟨h1,h2,h3⟩:=O0 w i acK;have hm:=Rm (w:=w) (i:=i) acK;by_cases hx:w.getD i default=63
   · by_cases hs : nL w i = 0 ∨ nL w i = ((gX w).length : Nat) ∨ (0 < (e8 w i).length ∧ fw (e8 w i) = nL w i)
     · rw[qv hx hs];exact⟨h1,h2,fun h=>Int.le_trans (h3 h) hm⟩
     · rw [yV hx hs, K2]
       have hne:∀c∈e8 w i,c<nL w i:=fun c hc=>by
         have hl:0<(e8 w i).length:=abW hc;have:=(h2 c hc).2.1;have h4:=h3 hl;have h5:fw (e8 w i)≠nL w i:=fun q=>hs (.inr (.inr ⟨hl,q⟩))
         omega
       have hnn:0≤nL w i:=by unfold nL;omega
       have hnl:nL w i≤((gX w).length:Nat):=by
         unfold nL;have:(gX (w.take i)).length≤(gX w).length:=by
           unfold gX;exact List.Sublist.length_le (List.Sublist.filter _ (List.take_sublist i w))
         omega
       refine⟨List.pairwise_append.2 ⟨h1,abR _ _,fun c hc y hy=>by rw[aay.1 hy];exact hne c hc⟩,fun c hc=>?_,fun _=>hm⟩;rcases aaU.1 hc with hc|hc
       · have := hne c hc
         exact⟨(h2 c hc).1,acK,(h2 c hc).2.2⟩
       · rw [aay.1 hc]
         refine⟨?_,Int.le_refl _,?_⟩
         · have:nL w i≠0:=fun q=>hs (.inl q);omega
         · have:nL w i≠((gX w).length:Nat):=fun q=>hs (.inr (.inl q));omega
   · rw[CN hx];exact⟨h1,h2,fun h=>Int.le_trans (h3 h) hm⟩
theorem sI:Good IY:=⟨(fun x hx=>by cases hx),List.Pairwise.nil,(fun c hc=>by cases hc)⟩
theorem HC (g:aC)(cl cn:List UInt8)(w:List Int):Good (gj g cl cn w):=by
 unfold gj;split
 · next h =>
   have hu:gY g cl cn=0:=by
     by_cases q:gY g cl cn=0
     · exact q
     · rw[oa q] at h;exact h
   have hf:jd (bh g cl) w=true:=by
     cases q:jd (bh g cl) w
     · rw[tR hu q] at h;cases h
     · rfl
   have hok:j7 g cl cn=true:=by
     unfold gY at hu;split at hu
     · cases hu
     · split at hu
       · cases hu
       · next h2=>simpa using h2
   unfold j7 u2 at hok;simp only[aax] at hok;have hl:gE w=true:=by unfold jd at hf;simp only[aax] at hf;exact hf.1.2
   have hst:zf (bT g cl w):=fun x hx=>sH hl x (abv hx)
   have hj:zf (u3 g cl cn w):=OZ fun x hx=>by
     simp only[aaC,aca,or_false] at hx;rcases hx with rfl|rfl|rfl
     · exact sH hok.1.1.1.1.2.2
     · exact OX hst
     · exact sH hok.1.1.1.2.2
   have hw:zf (wK (u3 g cl cn w) (ot g)):=OX hj;generalize wK (u3 g cl cn w) (ot g)=W at hw;obtain⟨c1,c2,_⟩:=O0 W W.length (aak _);exact⟨fun x hx=>hw x (aa9.1 hx).1,c1,fun c hc=>⟨(c2 c hc).1,(c2 c hc).2.2⟩⟩
 · exact sI
def zg (F:List (List aK)):Prop:=∀r∈F,∀x∈r,Good x
theorem sJ (g:aC)(l:List cy):zg (aH g l):=fun r hr x hx=>by
 obtain⟨y,_,rfl⟩:=aaG.1 hr;unfold fl at hx;split at hx
 ·obtain⟨c,_,rfl⟩:=aaG.1 hx;exact HC _ _ _ _
 ·cases hx
theorem zg.at (h:zg F)(p:Nat×Nat):Good (a8 F p):=by
 unfold a8;rcases aaK p.1 F.length with h1|h1
 ·rcases aaK p.2 (F.getD p.1 default).length with h2|h2
  ·exact h _ (aM h1) _ (aM h2)
  ·rw[aag (l:=F.getD p.1 default),aaR h2];exact sI
 ·rw[aag (l:=F),aaR h1];show Good (([]:List aK).getD p.2 default);exact sI
theorem str_inj {a b:List UInt8}(h:KS a=KS b):a=b:=by unfold KS at h;simp only[Value.string.injEq,ByteArray.mk.injEq] at h;have:=congrArg Array.toList h;simpa using this
theorem O1 {x y:Int}(hx:0≤x∧x<64)(hy:0≤y∧y<64)(h:UInt8.ofNat x.toNat=UInt8.ofNat y.toNat):x=y:=by have:=congrArg UInt8.toNat h;simp only[UInt8.toNat_ofNat'] at this;omega
theorem bytes_inj:∀ {a b:List Int},zf a→zf b→a.map (fun n=>UInt8.ofNat n.toNat)=b.map (fun n=>UInt8.ofNat n.toNat)→a=b
 | [],[],_,_,_=>rfl
 | [],_ :: _,_,_,h=>by cases h
 | _ :: _,[],_,_,h=>by cases h
 | x :: a, y :: b, ha, hb, h => by
   simp only[aa6,acC] at h;rw[O1 (ha x aaq) (hb y aaq) h.1,bytes_inj (fun z hz=>ha z (aav _ hz)) (fun z hz=>hb z (aav _ hz)) h.2]
theorem FJ :w.all Fp=true↔zf w:=by rw[aaF];unfold zf Fp;simp only[aax,decide_eq_true_eq]
theorem FK (h:zf w):qz w=w.map fun n=>UInt8.ofNat n.toNat:=if_pos (FJ.2 h)
theorem Rn {a:List Int}(ha:zf a):qz a=qz w↔a=w:=by
 refine⟨fun h=>?_,fun h=>by rw[h]⟩;rw[FK ha] at h;by_cases hw:zf w
 · rw[FK hw] at h;exact bytes_inj ha hw h
 · have : qz w = Fq := if_neg (fun q => hw (FJ.1 q))
   rw[this] at h
   match a,h with
   | x :: a, h =>
     simp only[aa6,Fq,acC] at h;have h1:=congrArg UInt8.toNat h.1;have:=ha x aaq;simp only[UInt8.toNat_ofNat'] at h1;have h2:(110:UInt8).toNat=110:=rfl;omega
theorem Ro (hG:zg F)(w:List Int):cq F w=(aO F F.length 0).filter fun p=>decide ((a8 F p).af=w):=by
 unfold cq atKey;refine List.filter_congr fun p _=>?_
 rw[decide_eq_decide];unfold iA;exact⟨fun h=>(Rn (hG.at p).lt).1 (str_inj h),fun h=>by rw[h]⟩
theorem HD (hG:zg F)(w:List Int):ki F w=dN F w:=by unfold ki dN Bw;rw[Ro hG]
theorem ub {a:mF}(h:a∈dN F w):∃p∈aO F F.length 0,a=⟨(p.1:Nat),a8 F p⟩∧a.form.af=w:=by unfold dN Bw at h;obtain⟨p,hp,rfl⟩:=aaG.1 h;have:=aa9.1 hp;exact⟨p,this.1,rfl,of_decide_eq_true this.2⟩
theorem Rp (hG:zg F)(w:List Int):cJ (ki F w) (ki F w).length=SE F w:=by
 rw[HD hG];have hA:∀a∈dN F w,Good a.form∧a.form.af=w:=fun a ha=>by
   obtain⟨p,_,rfl,h⟩:=ub ha;exact⟨hG.at p,h⟩
 unfold SE;generalize dN F w=l at hA;by_cases h0:l.length=0
 · rw[if_pos h0,h0];rfl
 · rw [if_neg h0]
   unfold cJ;rw[if_neg h0,abj];have hm0:l.getD 0 default∈l:=aM acK;obtain⟨g0,l0⟩:=hA _ hm0;refine sG (r:=(·<·)) (fun x y h h'=>by omega) (g0.pw.filter _) ?_ fun z=>?_
   · unfold Hw
     refine acs.2 (List.Pairwise.filter _ ?_);exact acH (fun h=>by omega) (List.pairwise_lt_range (n:=w.length+1))
   · unfold Hw Xg
     rw[aa9,aaG,abj];constructor
     · rintro ⟨h1, h2⟩
       have hb:=g0.bd z h1;rw[l0] at hb;refine⟨z.toNat,aa9.2 ⟨aaI.2 acK,?_⟩,acK⟩;rw[show((z.toNat:Nat):Int)=z by omega];exact h2
     · rintro ⟨c, hc, rfl⟩
       obtain⟨_,h2⟩:=aa9.1 hc;refine⟨?_,h2⟩;have:=aaF.1 h2 _ hm0;unfold yW at this;obtain⟨y,hy,he⟩:=aaQ.1 this;rw[←of_decide_eq_true he];exact hy
def gZ (n:Int):List UInt8:=if n≤9 then[UInt8.ofNat (48+n).toNat] else[UInt8.ofNat (48+n / 10).toNat,UInt8.ofNat (48+n % 10).toNat]
theorem oh (n:Int):(gZ n).length≤2:=by by_cases h:n≤9<;>simp[gZ,h]
theorem O2 {x:Int}(h:0≤x∧x<256):IntKind.u8.wrap x=x:=by
 have:IntKind.u8.wrap x=x % 256:=by
  simp only[IntKind.wrap,IntKind.bits,IntKind.signed]
  first|rfl|(simp;omega)|omega
 rw[this];omega
theorem O3 {n:Nat}:l.drop (if(l.length:Int)<(n:Int) then(l.length:Int) else(n:Int)).toNat=l.drop n:=by
 split
 ·rw[abC,List.drop_length,abh acK]
 ·rw[abC]
theorem fx.drop (h:fx l)(n:Nat):fx (l.drop n):=fun x hx=>h x (aa0 hx)
end Go.Wf
namespace Go.Proofs.YtlapahnodhmcpaaGreat
open Go.Am Go.Wb Go.Wc Go.Wf Go.We
abbrev Zt:=dF 2 Tryz.func77
variable{n:Int}
theorem K3 (hn:0≤n∧n<16):ak Tryz.prog 77 [int n] (.p (ah (NP.getD n.toNat default))):=by
 refine cF Zt fun w0 M0 aa=>?_
 refine c4 [7,1] [3,4] [] ?_;refine oP J (pI (f:=ah) (l:=NP) J Tryz.underlying27 Yj J J (by simp only[aam,aat];omega) (fun _=>rfl)) ?_;refine wZ [8005] ?_;rfl
abbrev Zu:=dF 0 Tryz.func43
theorem zh:ak Tryz.prog 43 [] (.p (af aS)):=by
 refine cF Zu fun w0 M0 aa=>?_
 refine AD [17,8004] ?_;rfl
abbrev Zv:=dF 4 Tryz.func31
variable{l:List Int}
theorem oi (hl:l.length≤9223372036854775807)(hn:0≤n∧n≤1000):ak Tryz.prog 31 [ints l,int n] (.fresh 3 ((l.take n.toNat).map int)):=by
 have hmin:(if n<(l.length:Int) then n else(l.length:Int)).toNat≤1000:=by split<;>omega
 refine cF Zv fun w0 M0 aa=>?_
 refine c4 [1002,1004,7,1] [6,7,9,10] [5] ?_;refine oP J (Dy J J J) ?_;refine oP J (sZ J Tryz.underlying22 wu J J (by simp only[aai];omega) (mQ fun _=>rfl)) ?_;refine wA [0] [6,12] [5] ?_;refine oS J (step_append J J J J Tryz.underlying22 Uz J J aa (LP J (fun _=>⟨_,rfl⟩)) (by simp only[aai,aau,aat];omega) (by simp only[aai,aau,aat];omega)) J ?_;refine wZ [8004] ?_;rw[NQ];rfl
abbrev Zw:=dF 2 Tryz.func44
theorem zZ (hl:l.length≤9223372036854775807)(h64:fx l):ak Tryz.prog 44 [ints l] (.fresh 143 ((ar l).map GL)):=by
 have a0:=js (l:=l) (i:=0) (most:=6) acM;have a1:=js (l:=l) (i:=1) (most:=16) acM;refine cF Zw fun w0 M0 aa=>?_
 refine c4 [1002,5] [0,8] [] ?_;refine oC J J J J (eI acN acK) ?_;refine wA [0,6] [0,3,11] [] ?_;refine oC J J J J (eI acN acK) ?_;refine wA [1005,9] [0,3,4,5,6] [5] ?_;refine lr (fun zl zo zm zs=>∃i:Nat,zm=(3+kN l 0 6).toNat-i∧(i≤(3+kN l 0 6).toNat)∧zs=eJ 64 [(5,.own 5),(6,vvw (int i))] zl [(5,.arr 143 ((mv l (kN l 1 16) i).map GL))] zo) ?_ ?_;exact⟨_,0,rfl,aan _,rfl⟩;rintro zm zs ⟨i,rfl,aY,rfl⟩;have b1:=js (l:=l) (i:=2+i) (most:=9) acM;have b2:=js (l:=l) (i:=10+i) (most:=3) acM;have b3:=js (l:=l) (i:=30+i) (most:=4) acM;have b4:=js (l:=l) (i:=40+i) (most:=2) acM;have b5:=fun h:0<(i:Int)=>js (l:=l) (i:=20+i) (most:=i) h
 have b6:=oX l (kN l 1 16) i;refine wS [3008] [0,3,4,5,6,15] [5] ?_ ?_<;>intro h1;refine wA [9,0,0] [0,3,4,5,6,21] [5] ?_;refine oC J J J J (K3 acK) ?_;refine wZ [3,5000] ?_;refine oC J J J J (eI acN acK) ?_;refine wS [0,4011] [0,3,4,5,6,7,32] [5,7] ?_ ?_<;>intro h2';refine wZ [2,5000] ?_;refine oC J J J J (eI acN acK) ?_;refine wS [3004] [0,3,4,5,6,7,38] [5,7] ?_ ?_<;>intro h3;refine wA [6,1] [0,3,4,5,6,7,39,40,42,43] [5,7] ?_;refine oC J J J J (eI acN acK) ?_;refine oP J (aE J Tryz.underlying23 Vv J J J (by simp only[aai];have:=b5 acK;omega)) ?_;refine wA [0] [0,3,4,5,6,7,45] [5,7] ?_;refine oP J (l9 J QH J J) ?_;refine oP J (fh J Sb J J (iC (by have:=b5 acK;omega)) J) ?_;refine wZ [8,5000] ?_;refine oC J J J J (eI acN acK) ?_;refine wZ [7,5000] ?_;refine oC J J J J (eI acN acK) ?_;refine wA [7,1000,6,9002] [0,3,4,5,6] [5] ?_;rotate_left;refine wA [6,1000,6,9002] [0,3,4,5,6] [5] ?_;rotate_left;refine wA [14,1000,6,9002] [0,3,4,5,6] [5] ?_;rotate_left;refine wZ [8013] ?_;rw[ar,show i=(3+kN l 0 6).toNat by omega]
 all_goals
  exact⟨_,⟨i+1,rfl,acK,by rw[mv,aas,acD,It];first|(rw[if_pos ⟨acK,acK⟩];rfl)|(rw[if_neg acK];rfl)⟩,acK⟩
abbrev Zx:=dF 4 Tryz.func45
theorem jK {n:Nat}(hl:l.length≤9223372036854775807)(hn:n≤1000):aU Tryz.prog 45 [ints l,int n] (.p (ints (l.drop n))):=by
 have hmin:(if(l.length:Int)<(n:Int) then(l.length:Int) else(n:Int)).toNat≤l.length:=by split<;>omega
 refine cN Zx fun w0 M0 aa=>?_
 refine AD [10,5000] ?_;refine oP J (Dy J J J) ?_;refine wA [0] [5,9] [] ?_;refine oP J (nr J Tryz.underlying22 wu J J (by split<;>omega) (fun _=>rfl)) ?_;refine wZ [8004] ?_;rw[O3]
abbrev Zy:=dF 2 Tryz.func66
theorem jL (hn:0≤n∧n≤99):aU Tryz.prog 66 [int n] (.p (ah (gZ n))):=by
 refine cN Zy fun w0 M0 aa=>?_
 refine c4 [12] [0,3] [] ?_;refine lp (fun zm zs=>∃(q:Int)(s:List UInt8),zm=q.toNat∧(0≤q)∧(s.length≤1)∧((q=n∧s=[])∨(9<n∧q=n / 10∧s=[UInt8.ofNat (48+n % 10).toNat]))∧zs=⟨23,[(0,vvw (int q)),(3,vvw (ah s))],[]⟩) ?_ ?_;exact⟨_,n,[],rfl,hn.1,aan _,.inl ⟨rfl,rfl⟩,rfl⟩;rintro zm zs ⟨q,s,rfl,aY,aq,cY,rfl⟩;refine wS [3007] [0,3,5] [] ?_ ?_<;>intro h1;refine wA [7,0,0] [0,3,8] [] ?_;refine oP J (du (a':=(48+q % 10)) (nC J Tryz.underlying3 Tryz.underlying5 J) (O2 acK)) ?_;refine wA [0,0] [0,3,10] [] ?_;refine oP J (uj J Tryz.underlying149 Tryz.underlying5 Tryz.underlying9 J J) ?_;refine wA [1] [0,11,12] [] ?_;refine oP J (jB J J J (by simp only[aai,aam,aat];omega)) ?_;refine wA [5,9003] [0,3] [] ?_;have hq:q=n∧s=[]:=cY.elim id (fun h=>by omega);obtain⟨rfl,rfl⟩:=hq;exact⟨_,⟨q / 10,[UInt8.ofNat (48+q % 10).toNat],rfl,acK,aak _,.inr ⟨acK,rfl,rfl⟩,rfl⟩,acK⟩;refine wZ [9,5000] ?_;refine oP J (du (a':=(48+q)) (nC J Tryz.underlying3 Tryz.underlying5 J) (O2 acK)) ?_;refine wZ [0,5000] ?_;refine oP J (uj J Tryz.underlying149 Tryz.underlying5 Tryz.underlying9 J J) ?_;refine wA [1] [20,21] [] ?_;refine oP J (jB J J J (by simp only[aai,aam,aat];omega)) ?_;refine wZ [8004] ?_;rcases cY with⟨rfl,rfl⟩|⟨h1,rfl,rfl⟩
 ·unfold gZ;rw[if_pos acK];rfl
 ·unfold gZ;rw[if_neg acK];rfl
end Go.Proofs.YtlapahnodhmcpaaGreat
