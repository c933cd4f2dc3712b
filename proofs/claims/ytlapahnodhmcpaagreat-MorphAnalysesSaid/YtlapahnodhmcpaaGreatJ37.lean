/-
  Part of the proof.
-/
import Derived.Test.YtlapahnodhmcpaaGreatJ0
import Derived.Test.YtlapahnodhmcpaaGreatJ16
import Derived.Test.YtlapahnodhmcpaaGreatJ27
import Derived.Test.YtlapahnodhmcpaaGreatJ24
import Derived.Test.YtlapahnodhmcpaaGreatJ22
import Derived.Test.YtlapahnodhmcpaaGreatJ10
import Derived.Test.YtlapahnodhmcpaaGreatJ25
import Derived.Test.YtlapahnodhmcpaaGreatJ17
import Derived.Test.YtlapahnodhmcpaaGreatJ36
import Derived.Test.YtlapahnodhmcpaaGreatJ31
set_option linter.unusedVariables false
set_option linter.unusedSectionVars false
set_option linter.unusedSimpArgs false
set_option maxRecDepth 100000
set_option maxHeartbeats 40000000
namespace Go.Proofs.YtlapahnodhmcpaaGreat
open Go.Am Go.Wb
theorem YI:tP Tryz.prog 68 Tryz.f68.ntmps 2 87 3 (Tryz.f68.body.getD .skip):=⟨Tryz.f68,Tryz.func68,rfl,rfl,rfl,acf,iC,bX⟩
theorem qJ {l:List Rx}(hs:Rx.aB l≤1099511627776):aX Tryz.prog 68 [gJ l] (.p (rx (cU l))):=by
 have hl:=dj l
 refine bk YI (ZZ J) fun w0 M0 aa=>?_
 refine c6 [1007,9] [0,2,3,4] [2,3] ?_
 refine lp (fun zm zs=>∃i:Nat,zm=l.length-i∧(i≤l.length)∧(∀j,j<i→(l.getD j default).kind≠0)∧zs=⟨56,[(0,vvw (gJ l)),(2,.pbox 2 0),(3,.own 3),(4,vvw (int i))],[(2,.box 87 [vvw (.sc (.int .i64 0)),vvv,vvv]),(3,.arr 87 ((ek (l.take i)).map rx))]⟩) ?_ ?_
 exact⟨_,0,rfl,Z5 _,fun j hj=>absurd hj ace,rfl⟩
 rintro zm zs ⟨i,rfl,aZ,au,rfl⟩
 have hroom:=fun h=>zQ (l:=l) (i:=i) h
 refine wS [5,3003] [0,2,3,4,8] [2,3] ?_ ?_<;>intro h1
 refine wS [10,3005] [0,2,3,4,16] [2,3] ?_ ?_<;>intro h2
 refine wZ [14] ?_
 refine aA J ?_;rotate_left
 refine wS [7,3005] [0,2,3,4,23] [2,3] ?_ ?_<;>intro h3
 refine wA [1] [0,2,3,4] [2,3] ?_
 have hr:=hroom ace
 refine wA [4,2] [0,2,4,24,29] [2,3] ?_
 refine oS J (step_append J J J J Tryz.underlying85 jr J J aa (wq (l:=(l.getD i default).kids) J) (by first|(simp only[ll];omega)|omega) (by first|(simp only[ll];omega)|omega)) J ?_
 refine wA [6,9002] [0,2,3,4] [2,3] ?_;rotate_left
 refine wS [5,3005] [0,2,3,4,36] [2,3] ?_ ?_<;>intro h4
 refine wA [1] [0,2,3,4] [2,3] ?_
 have hr:=hroom ace
 refine wA [4,1,1000,6,9002] [0,2,3,4] [2,3] ?_;rotate_left
 refine wA [6,9002] [0,2,3,4] [2,3] ?_;rotate_left
 refine wS [10,3003] [2,3,46] [2,3] ?_ ?_<;>intro h5
 refine wZ [9] ?_
 refine aA J ?_;rotate_left
 refine wA [5] [2,3] [2,3] ?_
 refine aS 56 [(2,_),(3,_)] [(2,_)] aa J ⟨.inl J,.inr ⟨_,_,rfl,rfl,rfl⟩,trivial⟩ ⟨rfl,trivial⟩ ?_
 refine Ug [2,3003] [2,3,50] [2] ?_ ?_<;>intro h6
 refine wZ [4,6] ?_
 refine aA J ?_;rotate_left
 refine wA [6] [2,54] [2] ?_
 refine oN J J J J J (B0 3 (ek (l.take i))) ?_
 refine wZ [4] ?_
 refine aA J ?_;rotate_left
 all_goals first
  | (
    first|(rw[tX (i:=i) ace ace];rfl)|(rw[nu (fun j hj=>au j ace)];rw[show ek l=ek (l.take i) by rw[aaj ace]];first|(rw[FF ace];first|done|rfl)|(rw[FG ace];first|done|rfl)|(rw[rO ace ace];first|done|rfl)|(rw[rO ace ace,mE];rfl));done)
  | (
    exact⟨_,⟨i+1,rfl,ace,b7 au ace,by rw[tW ace];first|(rw[lV ace,aav];rfl)|(rw[iK ace,Z8];rfl)|(rw[eh ace ace,Z8];rfl)⟩,ace⟩;done)
abbrev Wv:=dU 4 Tryz.func134
theorem uP {l:List Rx}{x:Rx}(hs:Rx.aB l≤549755813888)(hx:x.size≤549755813888):aX Tryz.prog 134 [gJ l,rx x] (.p (gJ (pQ l x))):=by
 have hl:=dj l
 have hk:=fun k (h:k<l.length)=>gp (aP h)
 refine cN Wv fun w0 M0 aa=>?_
 refine c6 [2,10] [0,3,5] [] ?_
 refine lp (fun zm zs=>∃k:Nat,zm=l.length-k∧(k≤l.length)∧(∀j,j<k→de (l.getD j default) x<0)∧zs=⟨48,[(0,vvw (gJ l)),(3,vvw (.pc [int (x).kind,ints (x).syms,.sl (Rx.gi (x).kids)] 0)),(5,vvw (int k))],[]⟩) ?_ ?_
 exact⟨_,0,rfl,Z5 _,fun j hj=>absurd hj ace,rfl⟩
 rintro zm zs ⟨k,rfl,aZ,au,rfl⟩
 refine wS [2002,6002,7002] [0,3,5,11] [] ?_ ?_<;>intro h1'
 refine wA [6002,2] [0,3,5,11,15,16] [] ?_
 refine oE J J J J J J (ri _ (l.getD k default) x (Z1 _) (by have:=hk k ace;omega) ace) ?_
 refine wS [3004] [0,3,5,19] [] ?_ ?_<;>intro h2
 refine wA [6,9003] [0,3,5] [] ?_
 exact⟨_,⟨k+1,rfl,ace,b7 au ace,rfl⟩,ace⟩
 refine wS [2008,6002,7002] [0,3,5,26] [] ?_ ?_<;>intro h3'
 refine wA [6002,2] [0,3,5,26,30,31] [] ?_
 refine oE J J J J J J (Ap (a:=l.getD k default) (b:=x) (by have:=hk k ace;omega) ace) ?_
 refine wS [3003] [0,3,5,33] [] ?_ ?_<;>intro h4
 refine wZ [8009] ?_;rotate_left
 refine wA [9] [0,3,5,6] [] ?_
 refine kl (n:=48) (o2:=[(39,.arr 87 ((l.take k).map rx))]) 4 7 [(35,vvv),(36,vvw (gJ l)),(37,vvw (int k)),(38,vvw (gJ (l.take k))),(39,.own 39),(40,vvw (.agg [int x.kind,ints x.syms,.sl (Rx.gi x.kids)])),(41,vvw (.sl [(.agg [int x.kind,ints x.syms,.sl (Rx.gi x.kids)])])),(0,vvw (gJ l)),(3,vvw (.pc [int (x).kind,ints (x).syms,.sl (Rx.gi (x).kids)] 0)),(5,vvw (int k)),(6,vvv)] mixed acf acf acf J acf (fun t d h=>h) J ?_ ?_ ?_ ?_ ?_
 ·intro i hi
  rcases(by omega:i=0∨i=1∨i=2∨i=3∨i=4∨i=5∨i=6) with rfl|rfl|rfl|rfl|rfl|rfl|rfl<;>exact⟨_,_,rfl,rfl⟩
 ·intro i o t d hi hia ho hd hG hn
  rcases(by omega:i=0∨i=1∨i=2∨i=3∨i=5∨i=6) with rfl|rfl|rfl|rfl|rfl|rfl
  ·injection (show some _=some o from ho) with ho;subst ho;injection (show some _=some t from hd) with hd;subst hd;injection (show some _=some d from hG) with hG;subst hG
   exact af J J
  ·injection (show some _=some o from ho) with ho;subst ho;injection (show some _=some t from hd) with hd;subst hd;injection (show some _=some d from hG) with hG;subst hG
   exact af J J
  ·injection (show some _=some o from ho) with ho;subst ho;injection (show some _=some t from hd) with hd;subst hd;injection (show some _=some d from hG) with hG;subst hG
   exact af J J
  ·injection (show some _=some o from ho) with ho;subst ho;injection (show some _=some t from hd) with hd;subst hd;injection (show some _=some d from hG) with hG;subst hG
   exact fa (f:=rx) (l:=l) (j:=(k:Int)) J Tryz.underlying85 bX J J ace (fun _=>rfl)
  ·injection (show some _=some o from ho) with ho;subst ho;injection (show some _=some t from hd) with hd;subst hd;injection (show some _=some d from hG) with hG;subst hG
   exact aM (cs:=[int x.kind,ints x.syms,.sl (Rx.gi x.kids)]) (off:=0) J iC bX J (ZZ J)
  ·injection (show some _=some o from ho) with ho;subst ho;injection (show some _=some t from hd) with hd;subst hd;injection (show some _=some d from hG) with hG;subst hG
   exact bY J Tryz.underlying85 jr J J J J aa
 ·intro i o t d hi hia ho hd hG hn
  rcases(by omega:i=0∨i=1∨i=2∨i=3∨i=5∨i=6) with rfl|rfl|rfl|rfl|rfl|rfl
  ·exact absurd hn acg
  ·exact absurd hn acg
  ·exact absurd hn acg
  ·exact absurd hn acg
  ·injection (show some _=some o from ho) with ho;subst ho;injection (show some _=some t from hd) with hd;subst hd;injection (show some _=some d from hG) with hG;subst hG
   exact aM (cs:=[int x.kind,ints x.syms,.sl (Rx.gi x.kids)]) (off:=0) J iC bX J (ZZ J)
  ·injection (show some _=some o from ho) with ho;subst ho;injection (show some _=some t from hd) with hd;subst hd;injection (show some _=some d from hG) with hG;subst hG
   exact bY J Tryz.underlying85 jr J J J J aa
 ·intro o X ho fl dO dh
  have GU:35∈looks _ o→X.lookup 35=some (vvv):=fun h=>(dh 35 h).trans rfl
  have GV:38∈looks _ o→X.lookup 38=some (vvw (gJ (l.take k))):=fun h=>(dh 38 h).trans rfl
  injection (show some _=some o from ho) with ho'
  obtain⟨s',g1,g2⟩:=sM (o:=o) (f:=rx) (l:=l.take k) (n:=48) (X:=X) (t:=39) (u:=35) (v:=38) (by rw[←ho'];rfl) (by rw[←ho'];rfl) rfl fl Tryz.underlying85 jr (GU (by rw[←ho'];decide)) (GV (by rw[←ho'];decide)) (fun _=>rfl) (by rw[Z0,aaa];omega) (by rw[Z0,aaa];omega) (fun t' d h hne=>fz (by rfl) (dO t' d h) hne) rfl aa
  exact⟨39,_,s',by rw[←ho'];rfl,rfl,g1,g2⟩
 refine bO (n:=2) acf ?_
 refine aH (i:=7) acf J J (step_append J J J J Tryz.underlying85 jr J J aa (cZ J (cw (by rfl))) (by simp only[aab,Z0,aaa,aad,Z9,Z2];omega) (by simp only[aab,Z0,aaa,aad,Z9,Z2];omega)) ?_
 refine xe 8 ?_
 refine bg acf ?_
 refine jl [6] [43,44,45] [39] ?_
 refine wZ [0,5000] ?_
 refine oS J (step_append J J J J Tryz.underlying85 jr J J aa (gI (f:=rx) (l:=l.drop k) J (fun _=>rfl)) (by simp only[aab,Z0,aaa,aad,Z9,Z2];omega) (by simp only[aab,Z0,aaa,aad,Z9,Z2];omega)) J ?_
 refine kj 48 [(47,_)] [] aa J ⟨.inr ⟨_,_,rfl,rfl,rfl⟩,trivial⟩ trivial ?_
 refine FC [8004] ?_;rotate_left
 refine wA [18] [0,3,5,6] [] ?_
 refine kl (n:=48) (o2:=[(39,.arr 87 ((l.take k).map rx))]) 4 7 [(35,vvv),(36,vvw (gJ l)),(37,vvw (int k)),(38,vvw (gJ (l.take k))),(39,.own 39),(40,vvw (.agg [int x.kind,ints x.syms,.sl (Rx.gi x.kids)])),(41,vvw (.sl [(.agg [int x.kind,ints x.syms,.sl (Rx.gi x.kids)])])),(0,vvw (gJ l)),(3,vvw (.pc [int (x).kind,ints (x).syms,.sl (Rx.gi (x).kids)] 0)),(5,vvw (int k)),(6,vvv)] mixed acf acf acf J acf (fun t d h=>h) J ?_ ?_ ?_ ?_ ?_
 ·intro i hi
  rcases(by omega:i=0∨i=1∨i=2∨i=3∨i=4∨i=5∨i=6) with rfl|rfl|rfl|rfl|rfl|rfl|rfl<;>exact⟨_,_,rfl,rfl⟩
 ·intro i o t d hi hia ho hd hG hn
  rcases(by omega:i=0∨i=1∨i=2∨i=3∨i=5∨i=6) with rfl|rfl|rfl|rfl|rfl|rfl
  ·injection (show some _=some o from ho) with ho;subst ho;injection (show some _=some t from hd) with hd;subst hd;injection (show some _=some d from hG) with hG;subst hG
   exact af J J
  ·injection (show some _=some o from ho) with ho;subst ho;injection (show some _=some t from hd) with hd;subst hd;injection (show some _=some d from hG) with hG;subst hG
   exact af J J
  ·injection (show some _=some o from ho) with ho;subst ho;injection (show some _=some t from hd) with hd;subst hd;injection (show some _=some d from hG) with hG;subst hG
   exact af J J
  ·injection (show some _=some o from ho) with ho;subst ho;injection (show some _=some t from hd) with hd;subst hd;injection (show some _=some d from hG) with hG;subst hG
   exact fa (f:=rx) (l:=l) (j:=(k:Int)) J Tryz.underlying85 bX J J ace (fun _=>rfl)
  ·injection (show some _=some o from ho) with ho;subst ho;injection (show some _=some t from hd) with hd;subst hd;injection (show some _=some d from hG) with hG;subst hG
   exact aM (cs:=[int x.kind,ints x.syms,.sl (Rx.gi x.kids)]) (off:=0) J iC bX J (ZZ J)
  ·injection (show some _=some o from ho) with ho;subst ho;injection (show some _=some t from hd) with hd;subst hd;injection (show some _=some d from hG) with hG;subst hG
   exact bY J Tryz.underlying85 jr J J J J aa
 ·intro i o t d hi hia ho hd hG hn
  rcases(by omega:i=0∨i=1∨i=2∨i=3∨i=5∨i=6) with rfl|rfl|rfl|rfl|rfl|rfl
  ·exact absurd hn acg
  ·exact absurd hn acg
  ·exact absurd hn acg
  ·exact absurd hn acg
  ·injection (show some _=some o from ho) with ho;subst ho;injection (show some _=some t from hd) with hd;subst hd;injection (show some _=some d from hG) with hG;subst hG
   exact aM (cs:=[int x.kind,ints x.syms,.sl (Rx.gi x.kids)]) (off:=0) J iC bX J (ZZ J)
  ·injection (show some _=some o from ho) with ho;subst ho;injection (show some _=some t from hd) with hd;subst hd;injection (show some _=some d from hG) with hG;subst hG
   exact bY J Tryz.underlying85 jr J J J J aa
 ·intro o X ho fl dO dh
  have GU:35∈looks _ o→X.lookup 35=some (vvv):=fun h=>(dh 35 h).trans rfl
  have GV:38∈looks _ o→X.lookup 38=some (vvw (gJ (l.take k))):=fun h=>(dh 38 h).trans rfl
  injection (show some _=some o from ho) with ho'
  obtain⟨s',g1,g2⟩:=sM (o:=o) (f:=rx) (l:=l.take k) (n:=48) (X:=X) (t:=39) (u:=35) (v:=38) (by rw[←ho'];rfl) (by rw[←ho'];rfl) rfl fl Tryz.underlying85 jr (GU (by rw[←ho'];decide)) (GV (by rw[←ho'];decide)) (fun _=>rfl) (by rw[Z0,aaa];omega) (by rw[Z0,aaa];omega) (fun t' d h hne=>fz (by rfl) (dO t' d h) hne) rfl aa
  exact⟨39,_,s',by rw[←ho'];rfl,rfl,g1,g2⟩
 refine bO (n:=2) acf ?_
 refine aH (i:=7) acf J J (step_append J J J J Tryz.underlying85 jr J J aa (cZ J (cw (by rfl))) (by simp only[aab,Z0,aaa,aad,Z9,Z2];omega) (by simp only[aab,Z0,aaa,aad,Z9,Z2];omega)) ?_
 refine xe 8 ?_
 refine bg acf ?_
 refine jl [6] [43,44,45] [39] ?_
 refine wZ [0,5000] ?_
 refine oS J (step_append J J J J Tryz.underlying85 jr J J aa (gI (f:=rx) (l:=l.drop k) J (fun _=>rfl)) (by simp only[aab,Z0,aaa,aad,Z9,Z2];omega) (by simp only[aab,Z0,aaa,aad,Z9,Z2];omega)) J ?_
 refine kj 48 [(47,_)] [] aa J ⟨.inr ⟨_,_,rfl,rfl,rfl⟩,trivial⟩ trivial ?_
 refine FC [8004] ?_;rotate_left
 refine wS [2018,6002,7002] [0,3,5,26] [] ?_ ?_<;>intro h5'
 refine wA [6002,2] [0,3,5,26,30,31] [] ?_
 refine oE J J J J J J (Ap (a:=l.getD k default) (b:=x) (by have:=hk k ace;omega) ace) ?_
 refine wS [3003] [0,3,5,33] [] ?_ ?_<;>intro h6
 refine wZ [8009] ?_;rotate_left
 refine wA [9] [0,3,5,6] [] ?_
 refine kl (n:=48) (o2:=[(39,.arr 87 ((l.take k).map rx))]) 4 7 [(35,vvv),(36,vvw (gJ l)),(37,vvw (int k)),(38,vvw (gJ (l.take k))),(39,.own 39),(40,vvw (.agg [int x.kind,ints x.syms,.sl (Rx.gi x.kids)])),(41,vvw (.sl [(.agg [int x.kind,ints x.syms,.sl (Rx.gi x.kids)])])),(0,vvw (gJ l)),(3,vvw (.pc [int (x).kind,ints (x).syms,.sl (Rx.gi (x).kids)] 0)),(5,vvw (int k)),(6,vvv)] mixed acf acf acf J acf (fun t d h=>h) J ?_ ?_ ?_ ?_ ?_
 ·intro i hi
  rcases(by omega:i=0∨i=1∨i=2∨i=3∨i=4∨i=5∨i=6) with rfl|rfl|rfl|rfl|rfl|rfl|rfl<;>exact⟨_,_,rfl,rfl⟩
 ·intro i o t d hi hia ho hd hG hn
  rcases(by omega:i=0∨i=1∨i=2∨i=3∨i=5∨i=6) with rfl|rfl|rfl|rfl|rfl|rfl
  ·injection (show some _=some o from ho) with ho;subst ho;injection (show some _=some t from hd) with hd;subst hd;injection (show some _=some d from hG) with hG;subst hG
   exact af J J
  ·injection (show some _=some o from ho) with ho;subst ho;injection (show some _=some t from hd) with hd;subst hd;injection (show some _=some d from hG) with hG;subst hG
   exact af J J
  ·injection (show some _=some o from ho) with ho;subst ho;injection (show some _=some t from hd) with hd;subst hd;injection (show some _=some d from hG) with hG;subst hG
   exact af J J
  ·injection (show some _=some o from ho) with ho;subst ho;injection (show some _=some t from hd) with hd;subst hd;injection (show some _=some d from hG) with hG;subst hG
   exact fa (f:=rx) (l:=l) (j:=(k:Int)) J Tryz.underlying85 bX J J ace (fun _=>rfl)
  ·injection (show some _=some o from ho) with ho;subst ho;injection (show some _=some t from hd) with hd;subst hd;injection (show some _=some d from hG) with hG;subst hG
   exact aM (cs:=[int x.kind,ints x.syms,.sl (Rx.gi x.kids)]) (off:=0) J iC bX J (ZZ J)
  ·injection (show some _=some o from ho) with ho;subst ho;injection (show some _=some t from hd) with hd;subst hd;injection (show some _=some d from hG) with hG;subst hG
   exact bY J Tryz.underlying85 jr J J J J aa
 ·intro i o t d hi hia ho hd hG hn
  rcases(by omega:i=0∨i=1∨i=2∨i=3∨i=5∨i=6) with rfl|rfl|rfl|rfl|rfl|rfl
  ·exact absurd hn acg
  ·exact absurd hn acg
  ·exact absurd hn acg
  ·exact absurd hn acg
  ·injection (show some _=some o from ho) with ho;subst ho;injection (show some _=some t from hd) with hd;subst hd;injection (show some _=some d from hG) with hG;subst hG
   exact aM (cs:=[int x.kind,ints x.syms,.sl (Rx.gi x.kids)]) (off:=0) J iC bX J (ZZ J)
  ·injection (show some _=some o from ho) with ho;subst ho;injection (show some _=some t from hd) with hd;subst hd;injection (show some _=some d from hG) with hG;subst hG
   exact bY J Tryz.underlying85 jr J J J J aa
 ·intro o X ho fl dO dh
  have GU:35∈looks _ o→X.lookup 35=some (vvv):=fun h=>(dh 35 h).trans rfl
  have GV:38∈looks _ o→X.lookup 38=some (vvw (gJ (l.take k))):=fun h=>(dh 38 h).trans rfl
  injection (show some _=some o from ho) with ho'
  obtain⟨s',g1,g2⟩:=sM (o:=o) (f:=rx) (l:=l.take k) (n:=48) (X:=X) (t:=39) (u:=35) (v:=38) (by rw[←ho'];rfl) (by rw[←ho'];rfl) rfl fl Tryz.underlying85 jr (GU (by rw[←ho'];decide)) (GV (by rw[←ho'];decide)) (fun _=>rfl) (by rw[Z0,aaa];omega) (by rw[Z0,aaa];omega) (fun t' d h hne=>fz (by rfl) (dO t' d h) hne) rfl aa
  exact⟨39,_,s',by rw[←ho'];rfl,rfl,g1,g2⟩
 refine bO (n:=2) acf ?_
 refine aH (i:=7) acf J J (step_append J J J J Tryz.underlying85 jr J J aa (cZ J (cw (by rfl))) (by simp only[aab,Z0,aaa,aad,Z9,Z2];omega) (by simp only[aab,Z0,aaa,aad,Z9,Z2];omega)) ?_
 refine xe 8 ?_
 refine bg acf ?_
 refine jl [6] [43,44,45] [39] ?_
 refine wZ [0,5000] ?_
 refine oS J (step_append J J J J Tryz.underlying85 jr J J aa (gI (f:=rx) (l:=l.drop k) J (fun _=>rfl)) (by simp only[aab,Z0,aaa,aad,Z9,Z2];omega) (by simp only[aab,Z0,aaa,aad,Z9,Z2];omega)) J ?_
 refine kj 48 [(47,_)] [] aa J ⟨.inr ⟨_,_,rfl,rfl,rfl⟩,trivial⟩ trivial ?_
 refine FC [8004] ?_;rotate_left
 refine wA [18] [0,3,5,6] [] ?_
 refine kl (n:=48) (o2:=[(39,.arr 87 ((l.take k).map rx))]) 4 7 [(35,vvv),(36,vvw (gJ l)),(37,vvw (int k)),(38,vvw (gJ (l.take k))),(39,.own 39),(40,vvw (.agg [int x.kind,ints x.syms,.sl (Rx.gi x.kids)])),(41,vvw (.sl [(.agg [int x.kind,ints x.syms,.sl (Rx.gi x.kids)])])),(0,vvw (gJ l)),(3,vvw (.pc [int (x).kind,ints (x).syms,.sl (Rx.gi (x).kids)] 0)),(5,vvw (int k)),(6,vvv)] mixed acf acf acf J acf (fun t d h=>h) J ?_ ?_ ?_ ?_ ?_
 ·intro i hi
  rcases(by omega:i=0∨i=1∨i=2∨i=3∨i=4∨i=5∨i=6) with rfl|rfl|rfl|rfl|rfl|rfl|rfl<;>exact⟨_,_,rfl,rfl⟩
 ·intro i o t d hi hia ho hd hG hn
  rcases(by omega:i=0∨i=1∨i=2∨i=3∨i=5∨i=6) with rfl|rfl|rfl|rfl|rfl|rfl
  ·injection (show some _=some o from ho) with ho;subst ho;injection (show some _=some t from hd) with hd;subst hd;injection (show some _=some d from hG) with hG;subst hG
   exact af J J
  ·injection (show some _=some o from ho) with ho;subst ho;injection (show some _=some t from hd) with hd;subst hd;injection (show some _=some d from hG) with hG;subst hG
   exact af J J
  ·injection (show some _=some o from ho) with ho;subst ho;injection (show some _=some t from hd) with hd;subst hd;injection (show some _=some d from hG) with hG;subst hG
   exact af J J
  ·injection (show some _=some o from ho) with ho;subst ho;injection (show some _=some t from hd) with hd;subst hd;injection (show some _=some d from hG) with hG;subst hG
   exact fa (f:=rx) (l:=l) (j:=(k:Int)) J Tryz.underlying85 bX J J ace (fun _=>rfl)
  ·injection (show some _=some o from ho) with ho;subst ho;injection (show some _=some t from hd) with hd;subst hd;injection (show some _=some d from hG) with hG;subst hG
   exact aM (cs:=[int x.kind,ints x.syms,.sl (Rx.gi x.kids)]) (off:=0) J iC bX J (ZZ J)
  ·injection (show some _=some o from ho) with ho;subst ho;injection (show some _=some t from hd) with hd;subst hd;injection (show some _=some d from hG) with hG;subst hG
   exact bY J Tryz.underlying85 jr J J J J aa
 ·intro i o t d hi hia ho hd hG hn
  rcases(by omega:i=0∨i=1∨i=2∨i=3∨i=5∨i=6) with rfl|rfl|rfl|rfl|rfl|rfl
  ·exact absurd hn acg
  ·exact absurd hn acg
  ·exact absurd hn acg
  ·exact absurd hn acg
  ·injection (show some _=some o from ho) with ho;subst ho;injection (show some _=some t from hd) with hd;subst hd;injection (show some _=some d from hG) with hG;subst hG
   exact aM (cs:=[int x.kind,ints x.syms,.sl (Rx.gi x.kids)]) (off:=0) J iC bX J (ZZ J)
  ·injection (show some _=some o from ho) with ho;subst ho;injection (show some _=some t from hd) with hd;subst hd;injection (show some _=some d from hG) with hG;subst hG
   exact bY J Tryz.underlying85 jr J J J J aa
 ·intro o X ho fl dO dh
  have GU:35∈looks _ o→X.lookup 35=some (vvv):=fun h=>(dh 35 h).trans rfl
  have GV:38∈looks _ o→X.lookup 38=some (vvw (gJ (l.take k))):=fun h=>(dh 38 h).trans rfl
  injection (show some _=some o from ho) with ho'
  obtain⟨s',g1,g2⟩:=sM (o:=o) (f:=rx) (l:=l.take k) (n:=48) (X:=X) (t:=39) (u:=35) (v:=38) (by rw[←ho'];rfl) (by rw[←ho'];rfl) rfl fl Tryz.underlying85 jr (GU (by rw[←ho'];decide)) (GV (by rw[←ho'];decide)) (fun _=>rfl) (by rw[Z0,aaa];omega) (by rw[Z0,aaa];omega) (fun t' d h hne=>fz (by rfl) (dO t' d h) hne) rfl aa
  exact⟨39,_,s',by rw[←ho'];rfl,rfl,g1,g2⟩
 refine bO (n:=2) acf ?_
 refine aH (i:=7) acf J J (step_append J J J J Tryz.underlying85 jr J J aa (cZ J (cw (by rfl))) (by simp only[aab,Z0,aaa,aad,Z9,Z2];omega) (by simp only[aab,Z0,aaa,aad,Z9,Z2];omega)) ?_
 refine xe 8 ?_
 refine bg acf ?_
 refine jl [6] [43,44,45] [39] ?_
 refine wZ [0,5000] ?_
 refine oS J (step_append J J J J Tryz.underlying85 jr J J aa (gI (f:=rx) (l:=l.drop k) J (fun _=>rfl)) (by simp only[aab,Z0,aaa,aad,Z9,Z2];omega) (by simp only[aab,Z0,aaa,aad,Z9,Z2];omega)) J ?_
 refine kj 48 [(47,_)] [] aa J ⟨.inr ⟨_,_,rfl,rfl,rfl⟩,trivial⟩ trivial ?_
 refine FC [8004] ?_;rotate_left
 all_goals
  first|(exfalso;omega)|(rw[Jw (i:=k) ace au ace];first|done|rfl)|(rw[M4 (i:=k) ace au (fun _=>by omega) (fun _=>by omega)];show _=RV.p (.sl ((l.take k++[x]++l.drop k).map rx));rw[Z8,Z8];rfl)
theorem Oq {P:Program}{w0:Fr}{M0:Nat→Prop}{s:St}{o:Oper}{T e:TypeId}{x y:Operand}{id off:Nat}{f g:Nat→Bool}(ho:o.op=.store T x y)(hd:o.dst=none)(hnd:Nodup s.s=true)(hk:bW P T=some 1)
  (hx:s.ev x=some (.pbox id off))(hl:s.o.lookup id=some (.box e (il f)))(hy:s.ev y=some (vvw (bool true)))(hle:off<64)(hg:qW (c3 id (il f)) off [vvw (bool true)]=il g)(aa:∀b,M0 b→b<w0.w.heap.size) :
  Step P w0 M0 o s (s.cD false id (.box e (il g))):=by
 have:=aV (P:=P) (w0:=w0) (M0:=M0) (k:=1) ho hd hnd hk hx hl hy rfl (fun h=>by cases h) rfl (by rw[oG];exact Nat.ble_eq_true_of_le ace) aa
 rw[show cY (vvw (bool true))=[vvw (bool true)] from rfl,hg] at this
 exact this
theorem Ww:zeroOf Tryz.prog 219=some (List.replicate 64 (Value.bool false)):=acf
theorem YJ:tP Tryz.prog 91 Tryz.f91.ntmps 2 87 3 (Tryz.f91.body.getD .skip):=⟨Tryz.f91,Tryz.func91,rfl,rfl,rfl,acf,iC,bX⟩
theorem nT {l:List Rx}(hn:∀x∈l,Nf x)(hs:Rx.aB l≤274877906944):aX Tryz.prog 91 [gJ l] (.p (rx (pR l))):=by
 have hl:=dj l
 have ZW:=kr l
 have ZX:=dj (aW l)
 have hz:∀j k,j<(aW l).length→k<((aW l).getD j default).syms.length→0≤((aW l).getD j default).syms.getD k default∧((aW l).getD j default).syms.getD k default<64:=fun j k hj hk=>by
   have h1:=(sY hn (aP hj)).1
   have h2:((aW l).getD j default).syms.getD k default∈((aW l).getD j default).syms:=by rw[dw hk];exact aa4 hk
   exact(jF.1 (h1.k2 (M5 h1 h2)).2).2.2 _ h2
 have hsz:∀j,j<(aW l).length→((aW l).getD j default).size≤Rx.aB (aW l):=fun j hj=>gp (aP hj)
 have hsy:∀j,((aW l).getD j default).syms.length<((aW l).getD j default).size:=fun j=>eA _
 have hro:∀j,Rx.aB (l5 ((aW l).take j))≤Rx.aB (aW l):=fun j=>aau (ux _) (gB _ _)
 have hsl:=uy (aW l) 64
 have h2s:=xX (aW l)
 have h3s:=F2 (aW l)
 have hm2:(Rx.mk 2 (fC (aW l) 64) []).size=1+(fC (aW l) 64).length:=by rw[eF,Rx.aB];rfl
 refine bk YJ (ZZ J) fun w0 M0 aa=>?_
 refine c6 [1007,9] [0,2,3,4] [2,3] ?_
 refine lp (fun zm zs=>∃i:Nat,zm=l.length-i∧(i≤l.length)∧zs=⟨128,[(0,vvw (gJ l)),(2,.pbox 2 0),(3,.own 3),(4,vvw (int i))],[(2,.box 87 [vvw (.sc (.int .i64 0)),vvv,vvv]),(3,.arr 87 ((aW (l.take i)).map rx))]⟩) ?_ ?_
 exact⟨_,0,rfl,Z5 _,rfl⟩
 rintro zm zs ⟨i,rfl,aZ,rfl⟩
 have hb2:=kr (l.take i)
 have hb3:=gB l i
 have hb4:=dj (aW (l.take i))
 have hb5:=fun(h:i<l.length)=>gp (aP h)
 have hb10:=dX (l.getD i default)
 refine wS [5,3003] [0,2,3,4,16] [2,3] ?_ ?_<;>intro h1
 refine wS [9,3005] [0,2,3,4,24] [2,3] ?_ ?_<;>intro h2
 refine wA [5,2] [0,2,4,25,30] [2,3] ?_
 refine oS J (step_append J J J J Tryz.underlying85 jr J J aa (wq (l:=(l.getD i default).kids) J) (by first|(simp only[ll];omega)|omega) (by first|(simp only[ll];omega)|omega)) J ?_
 refine wA [6,9002] [0,2,3,4] [2,3] ?_;rotate_left
 refine wA [5,1,1000,6,9002] [0,2,3,4] [2,3] ?_;rotate_left
 refine wA [7] [2,3] [2,3] ?_
 refine aS 128 [(2,_),(3,_)] [(2,_)] aa J ⟨.inl J,.inr ⟨_,_,rfl,rfl,rfl⟩,trivial⟩ ⟨rfl,trivial⟩ ?_
 rw[show l.take i=l from aaj ace]
 refine gS [1] [2,3] [2] ?_
 refine oS J (cM J J J J J Ww J aa) J ?_
 refine wA [4] [2,3,5] [2,5] ?_
 refine oP J (aC (dn J J) J) ?_
 refine wA [19] [2,3,5,6,7,8,9] [2,5] ?_
 refine lp (fun zm zs=>∃j:Nat,zm=(aW l).length-j∧(j≤(aW l).length)∧zs=⟨128,[(2,.pbox 2 0),(3,vvw (gJ (aW l))),(5,.pbox 5 0),(6,vvw (gJ (l5 ((aW l).take j)))),(7,vvw (bool (qS ((aW l).take j)))),(8,vvw (bool (l6 ((aW l).take j)))),(9,vvw (int j))],[(2,.box 87 [vvw (.sc (.int .i64 0)),vvv,vvv]),(5,.box 219 (il (OE ((aW l).take j))))]⟩) ?_ ?_
 exact⟨_,0,rfl,Z5 _,rfl⟩
 rintro zm zs ⟨j,rfl,fU,rfl⟩
 refine wS [5,3003] [2,3,5,6,7,8,9,42] [2,5] ?_ ?_<;>intro h3
 refine wA [12] [2,3,5,6,7,8,9,10] [2,5] ?_
 refine lp (fun zm zs=>∃k:Nat,zm=((aW l).getD j default).syms.length-k∧(k≤((aW l).getD j default).syms.length)∧zs=⟨128,[(2,.pbox 2 0),(3,vvw (gJ (aW l))),(5,.pbox 5 0),(6,vvw (gJ (l5 ((aW l).take j)))),(7,vvw (bool (qS ((aW l).take j)))),(8,vvw (bool (l6 ((aW l).take j)))),(9,vvw (int j)),(10,vvw (int k))],[(2,.box 87 [vvw (.sc (.int .i64 0)),vvv,vvv]),(5,.box 219 (il (o3 (aW l) j k)))]⟩) ?_ ?_
 refine⟨_,0,rfl,Z5 _,?_⟩
 rw[Pz];rfl
 rintro zm zs ⟨k,rfl,Nl,rfl⟩
 have hk1:=hsz j ace
 have hk2:=hsy j
 refine wS [6,2,3003] [2,3,5,6,7,8,9,10,52] [2,5] ?_ ?_<;>intro h4
 refine wA [8,3,1] [2,3,5,6,7,8,9,10,62] [2,5] ?_
 refine oP J (pq (n:=64) J Tryz.underlying219 j4 J J J (hz j k ace ace)) ?_
 refine oS J (Oq (f:=o3 (aW l) j k) (g:=o3 (aW l) j (k+1)) J J J j4 J J J (by have:=hz j k ace ace;omega) (DX 5 ace (hz j k ace ace)) aa) J ?_
 refine wA [5,9002] [2,3,5,6,7,8,9,10] [2,5] ?_
 exact⟨_,⟨k+1,rfl,ace,rfl⟩,ace⟩
 refine wS [10,3005] [2,3,5,6,7,8,9,69] [2,5] ?_ ?_<;>intro h5
 refine wA [8,9002] [2,3,5,6,7,8,9] [2,5] ?_;rotate_left
 refine wS [5,3005] [2,3,5,6,7,8,9,75] [2,5] ?_ ?_<;>intro h6
 refine wA [6,1] [2,3,5,7,8,9,76,80] [2,5] ?_
 refine oN J J J J J (uP (l:=l5 ((aW l).take j)) (x:=((aW l).getD j default)) (by have:=hro j;omega) (by have:=hsz j ace;omega)) ?_
 refine wS [4006] [2,3,5,6,7,9,83] [2,5] ?_ ?_<;>intro h7'
 refine wA [12,9002] [2,3,5,6,7,8,9] [2,5] ?_;rotate_left
 refine wA [2,1] [2,3,5,6,7,9,83,87] [2,5] ?_
 refine oC J J J J (JL _ ((aW l).getD j default) (Z1 _) (by have:=hsz j ace;omega)) ?_
 refine wA [7,9002] [2,3,5,6,7,8,9] [2,5] ?_;rotate_left
 refine wA [6,9002] [2,3,5,6,7,8,9] [2,5] ?_;rotate_left
 refine wA [7] [2,5,6,7,8] [2,5] ?_
 rw[show(aW l).take j=(aW l) from aaj ace]
 refine wA [1001,9] [2,5,6,7,8,11,12] [2,5,11] ?_
 refine lp (fun zm zs=>∃v:Nat,zm=64-v∧(v≤64)∧zs=⟨128,[(2,.pbox 2 0),(5,.pbox 5 0),(6,vvw (gJ (l5 (aW l)))),(7,vvw (bool (qS (aW l)))),(8,vvw (bool (l6 (aW l)))),(11,.own 11),(12,vvw (int v))],[(2,.box 87 [vvw (.sc (.int .i64 0)),vvv,vvv]),(5,.box 219 (il (OE (aW l)))),(11,.arr 3 ((fC (aW l) v).map int))]⟩) ?_ ?_
 exact⟨_,0,rfl,Z5 _,rfl⟩
 rintro zm zs ⟨v,rfl,Rz,rfl⟩
 have hv1:=uy (aW l) v
 refine wS [3007] [2,5,6,7,8,11,12,91] [2,5,11] ?_ ?_<;>intro h8
 refine wA [8] [2,5,6,7,8,11,12,94] [2,5,11] ?_
 refine oP J (pq (n:=64) J Tryz.underlying219 j4 J J J ace) ?_
 refine oP J (ae J Rp J J (Jz (f:=OE (aW l)) (v:=v) ace)) ?_
 refine wS [3002] [2,5,6,7,8,11,12,96] [2,5,11] ?_ ?_<;>intro h9
 refine wA [4,1000,6,9002] [2,5,6,7,8,11,12] [2,5,11] ?_;rotate_left
 refine wA [6,9002] [2,5,6,7,8,11,12] [2,5,11] ?_;rotate_left
 refine wA [6] [2,6,7,8,11] [2,11] ?_
 refine ct (fun zs=>zs=⟨128,[(2,.pbox 2 0),(6,vvw (gJ (l7 (aW l)))),(7,vvw (bool (qS (aW l)))),(8,vvw (bool (l6 (aW l))))],[(2,.box 87 [vvw (.sc (.int .i64 0)),vvv,vvv])]⟩) ?_ ?_
 refine wA [1] [2,6,7,8,11] [2,11] ?_
 refine aS 128 [(2,_),(6,_),(7,_),(8,_),(11,_)] [(2,_)] aa J ⟨.inl J,.inl J,.inl J,.inl J,.inr ⟨_,_,rfl,rfl,rfl⟩,trivial⟩ ⟨rfl,trivial⟩ ?_
 have ev:v=64:=ace
 subst ev
 refine Ug [2,3003] [2,6,7,8,11,103] [2] ?_ ?_<;>intro h10
 refine wA [4] [2,7,8,104,105] [2] ?_
 refine oN J J J J J (mf (fC (aW l) 64)) ?_
 refine oN J J J J J (uP (l:=l5 (aW l)) (x:=.mk 2 (fC (aW l) 64) []) (by have:=ux (aW l);omega) ace) ?_
 refine wA [10002] [2,6,7,8] [2] ?_;rotate_left
 refine wA [10002] [2,6,7,8] [2] ?_;rotate_left
 rintro zs ⟨rfl⟩
 refine ct (fun zs=>zs=⟨128,[(2,.pbox 2 0),(6,vvw (gJ (mL (aW l))))],[(2,.box 87 [vvw (.sc (.int .i64 0)),vvv,vvv])]⟩) ?_ ?_
 refine wS [4004] [2,6,8,109] [2] ?_ ?_<;>intro h11'
 refine wS [3005] [2,6,112] [2] ?_ ?_<;>intro h12
 refine wA [3] [2,113] [2] ?_
 refine oP J (aC (aF J Ga oI J J J) J) ?_
 refine oN J J J J J (uP (l:=l7 (aW l)) (x:=eE) ace acg) ?_
 refine wA [10002] [2,6] [2] ?_;rotate_left
 refine wA [10002] [2,6] [2] ?_;rotate_left
 refine wA [10007] [2,6] [2] ?_;rotate_left
 rintro zs ⟨rfl⟩
 refine wS [4,3003] [2,6,118] [2] ?_ ?_<;>intro h13
 refine wA [3] [2] [2] ?_
 refine oP J (aC (aF J Ga oI J J J) J) ?_
 refine wZ [5] ?_
 refine aA J ?_;rotate_left
 refine wS [7,3003] [2,6,122] [2] ?_ ?_<;>intro h14
 refine wZ [4,6] ?_
 refine aA J ?_;rotate_left
 refine wA [6] [2,126] [2] ?_
 refine oN J J J J J (B0 4 (mL (aW l))) ?_
 refine wZ [4] ?_
 refine aA J ?_;rotate_left
 all_goals first
  | (
    exact⟨_,⟨i+1,rfl,ace,by rw[nw ace];first|(rw[gF ace,Z8];rfl)|(rw[jo ace,Z8];rfl)⟩,ace⟩;done)
  | (
    exact⟨_,⟨j+1,rfl,ace,by rw[M8 (j:=j) (k:=k) ace ace];first|(rw[SZ ace ace,S1 ace ace,S5 ace ace];rfl)|(rw[S0 ace ace ace,S4 ace ace ace,F3 ace ace];rfl)|(rw[M7 ace ace,S2 ace ace ach,F3 ace ace];rfl)|(rw[M7 ace ace,S3 ace ace ach,F3 ace ace];rfl)⟩,ace⟩;done)
  | (
    exact⟨_,⟨v+1,rfl,ace,by first|(rw[PA ach,Z8];rfl)|(rw[PB ach];rfl)⟩,ace⟩;done)
  | (
    first|(rw[PC ace];first|done|rfl)|(rw[PD ace];first|done|rfl);done)
  | (
    first|(rw[PE ach ach];first|done|rfl)|(rw[PF ach];first|done|rfl)|(rw[PH ach];first|done|rfl);done)
  | (
    first
      | (rw[show pR l=_ from FI (k:=mL (aW l)) ace];first|done|rfl)
      | (rw[show pR l=_ from Bu (k:=mL (aW l)) ace];first|done|rfl)
      | (rw[show pR l=_ from xv (k:=mL (aW l)) ace ace];first|done|rfl);done)
theorem YK:tP Tryz.prog 64 Tryz.f64.ntmps 2 87 3 (Tryz.f64.body.getD .skip):=⟨Tryz.f64,Tryz.func64,rfl,rfl,rfl,acf,iC,bX⟩
theorem yD {x:Rx}(hn:Nf x)(hs:x.size≤274877906944):aX Tryz.prog 64 [rx x] (.p (rx (rh x))):=by
 have hk:=dX x
 have he:=size_eq x
 have hf:=oH Nb x.kids
 have hfn:∀y∈x.kids.filter Nb,y∈x.kids:=fun y hy=>(aaS.1 hy).1
 have hkn:∀y∈x.kids.filter Nb,Nf y:=fun y hy=>Nf.kids hn (hfn y hy)
 rw[fi x]
 refine bk YK (ZZ J) fun w0 M0 aa=>?_
 refine rM [1002,4010] [1,2,8] [1,2] ?_ ?_<;>intro h1'
 refine wZ [15] ?_
 refine aA J ?_;rotate_left
 refine wS [3006] [1,2,12] [1,2] ?_ ?_<;>intro h2
 refine wZ [9] ?_
 refine aA J ?_;rotate_left
 refine wS [3011] [1,2,16] [1,2] ?_ ?_<;>intro h3
 refine wZ [9] ?_
 refine aA J ?_;rotate_left
 refine wA [3] [1,2] [1,2] ?_
 refine ct (fun zs=>zs=⟨48,[(1,.pbox 1 0),(2,.pbox 2 0)],[(1,.box 87 [vvw (int ((rV x)).kind),vvw (ints ((rV x)).syms),vvw (.sl (Rx.gi ((rV x)).kids))]),(2,.box 87 [vvw (.sc (.int .i64 0)),vvv,vvv])]⟩) ?_ ?_
 refine wS [3007] [1,2,20] [1,2] ?_ ?_<;>intro h4
 refine wA [1003,9] [1,2,3,4] [1,2,3] ?_
 refine lp (fun zm zs=>∃i:Nat,zm=x.kids.length-i∧(i≤x.kids.length)∧zs=⟨48,[(1,.pbox 1 0),(2,.pbox 2 0),(3,.own 3),(4,vvw (int i))],[(1,.box 87 [vvw (int (x).kind),vvw (ints (x).syms),vvw (gJ (x).kids)]),(2,.box 87 [vvw (.sc (.int .i64 0)),vvv,vvv]),(3,.arr 87 (((x.kids.take i).filter Nb).map rx))]⟩) ?_ ?_
 exact⟨_,0,rfl,Z5 _,rfl⟩
 rintro zm zs ⟨i,rfl,aZ,rfl⟩
 have hb1:=oH Nb (x.kids.take i)
 have hb2:=gB x.kids i
 have hb3:=dj ((x.kids.take i).filter Nb)
 refine wS [6,3003] [1,2,3,4,25] [1,2,3] ?_ ?_<;>intro h5
 refine wS [10,3005] [1,2,3,4,34] [1,2,3] ?_ ?_<;>intro h6
 refine wA [6,1,1000,6,9002] [1,2,3,4] [1,2,3] ?_;rotate_left
 refine wA [6,9002] [1,2,3,4] [1,2,3] ?_;rotate_left
 refine wA [6] [1,2,3] [1,2,3] ?_
 refine aS 48 [(1,_),(2,_),(3,_)] [(1,_),(2,_)] aa J ⟨.inl J,.inl J,.inr ⟨_,_,rfl,rfl,rfl⟩,trivial⟩ ⟨rfl,rfl,trivial⟩ ?_
 refine gS [2] [1,2,43] [1,2] ?_
 refine oN J J J J J (nT (l:=(x.kids.take i).filter Nb) (by rw[show x.kids.take i=x.kids from aaj ace];exact hkn) (by have:=oH Nb (x.kids.take i);have:=gB x.kids i;omega)) ?_
 refine wA [10002] [1,2] [1,2] ?_;rotate_left
 refine wA [10002] [1,2] [1,2] ?_;rotate_left
 rintro zs ⟨rfl⟩
 refine wZ [3,5000] ?_
 refine oN J J J J J (B0 5 [rV x]) ?_
 refine wZ [4] ?_
 refine aA J ?_;rotate_left
 all_goals first
  | (
    first|(rw[PI ace];first|done|rfl)|(rw[PJ ace ace,fi];first|done|rfl)|(rw[PK ace ace];first|done|rfl);done)
  | (
    exact⟨_,⟨i+1,rfl,ace,by first|(rw[S6 ace (Ut ace),Z8];rfl)|(rw[S7 ace (Uu ace)];rfl)⟩,ace⟩;done)
  | (
    first|(rw[M9 ace,show x.kids.filter (fun y=>!decide (y.kind=1))=(x.kids.take i).filter Nb by rw[show x.kids.take i=x.kids from aaj ace]];first|done|rfl)|(rw[Na ace,xi];first|done|rfl);done)
theorem YL:tP Tryz.prog 94 Tryz.f94.ntmps 4 87 3 (Tryz.f94.body.getD .skip):=⟨Tryz.f94,Tryz.func94,rfl,rfl,rfl,acf,iC,bX⟩
theorem Cr (t:Bool):∀(m:Nat)(r:Rx),r.size≤m→m≤137438953472→aQ r=true→aX Tryz.prog 94 [rx r,bool t] (.p (rx (aJ t r))):=by
 intro m
 induction m with
 | zero=>intro r hr;have:=size_pos r;omega
 | succ m ih =>
 intro r hr hm hv
 have hk:=dX r
 have he:=size_eq r
 have hns:=JA t r
 have hnl:=HJ t r
 have hvk:=ib hv
 rw[fi r]
 refine bk YL (ZZ J) fun w0 M0 aa=>?_
 refine c6 [2,1005,9] [1,2,4,5,6] [4,5] ?_
 refine lp (fun zm zs=>∃i:Nat,zm=r.kids.length-i∧(i≤r.kids.length)∧zs=⟨56,[(1,vvw (bool t)),(2,vvw (pz r)),(4,.pbox 4 0),(5,.own 5),(6,vvw (int i))],[(4,.box 87 [vvw (.sc (.int .i64 0)),vvv,vvv]),(5,.arr 87 (((vm t r).take i).map rx))]⟩) ?_ ?_
 exact⟨_,0,rfl,Z5 _,rfl⟩
 rintro zm zs ⟨i,rfl,aZ,rfl⟩
 refine wS [6,3003] [1,2,4,5,6,12] [4,5] ?_ ?_<;>intro h1
 refine wA [11] [1,2,4,5,6,7] [4,5] ?_
 refine ct (fun zs=>∃k:Nat,(k<r.kids.length)∧((vm t r).getD i default=aJ t (r.kids.getD k default))∧zs=⟨56,[(1,vvw (bool t)),(2,vvw (pz r)),(4,.pbox 4 0),(5,.own 5),(6,vvw (int i)),(7,vvw (int k))],[(4,.box 87 [vvw (.sc (.int .i64 0)),vvv,vvv]),(5,.arr 87 (((vm t r).take i).map rx))]⟩) ?_ ?_
 refine wS [4004] [1,2,4,5,6,7,17] [4,5] ?_ ?_<;>intro h2'
 refine wS [3006] [1,2,4,5,6,7,21] [4,5] ?_ ?_<;>intro h3
 refine wA [4,0,1,10002] [1,2,4,5,6,7] [4,5] ?_;rotate_left
 refine wA [10002] [1,2,4,5,6,7] [4,5] ?_;rotate_left
 refine wA [10008] [1,2,4,5,6,7] [4,5] ?_;rotate_left
 rintro zs ⟨k,vo,Wx,rfl⟩
 refine wA [5,2] [1,2,4,6,28,33,34] [4,5] ?_
 refine oN J J J J J (ih (r.kids.getD k default) (aaT (aax (hU ace) hr)) ace (hvk _ (aP ace))) ?_
 refine wA [0,1000,6,9002] [1,2,4,5,6] [4,5] ?_
 exact⟨_,⟨i+1,rfl,ace,by rw[bD (l:=vm t r) ace,Z8,Wx];rfl⟩,ace⟩
 refine wA [8] [2,4,5] [4,5] ?_
 refine aS 56 [(2,_),(4,_),(5,_)] [(4,_)] aa J ⟨.inl J,.inl J,.inr ⟨_,_,rfl,rfl,rfl⟩,trivial⟩ ⟨rfl,trivial⟩ ?_
 rw[show(vm t r).take i=vm t r from aaj ace]
 refine Ug [3006] [2,4,5,40] [4] ?_ ?_<;>intro h4
 refine wA [4] [4,41] [4] ?_
 refine oN J J J J J (qJ (l:=vm t r) ace) ?_
 refine wZ [5] ?_
 refine aA J ?_;rotate_left
 refine wS [3011] [2,4,5,45] [4] ?_ ?_<;>intro h5
 refine wA [4] [4,46] [4] ?_
 refine oN J J J J J (nT (l:=vm t r) (BO hv) ace) ?_
 refine wZ [5] ?_
 refine aA J ?_;rotate_left
 refine wS [3011] [2,4,5,50] [4] ?_ ?_<;>intro h6
 refine wA [4] [4,51] [4] ?_
 refine oP J (ee J Tryz.underlying85 bX J J (by have:=(ly hv ace).2;omega) (fun _=>rfl)) ?_
 refine wA [1] [4,53] [4] ?_
 refine oN J J J J J (yD (x:=(vm t r).getD 0 default) (BO hv _ (aP (by have:=(ly hv ace).2;omega))) (by have:=gp (aP (l:=vm t r) (i:=0) (by have:=(ly hv ace).2;omega));omega)) ?_
 refine wZ [5] ?_
 refine aA J ?_;rotate_left
 refine wZ [10] ?_
 refine aA J ?_;rotate_left
 all_goals first
  | (
    first|exact⟨i,ace,Uw (by simp_all) ace,rfl⟩|exact⟨r.kids.length-1-i,ace,Uv ach ace ace ace,by rw[show((r.kids.length-1-i:Nat):Int)=(r.kids.length:Int)-1-i by omega];first|done|rfl⟩;done)
  | (
    first|(rw[Xo ace];first|done|rfl)|(rw[Xp hv ace];first|done|rfl)|(rw[Xq hv ace];first|done|rfl)|(rw[Xr hv ace ace ace,fi];first|done|rfl);done)
theorem YM:tP Tryz.prog 67 Tryz.f67.ntmps 2 87 3 (Tryz.f67.body.getD .skip):=⟨Tryz.f67,Tryz.func67,rfl,rfl,rfl,acf,iC,bX⟩
theorem gg {r:Rx}(h:r.size≤137438953472):aX Tryz.prog 67 [rx r] (.p (rx (dy r))):=by
 refine bk YM (ZZ J) fun w0 M0 aa=>?_
 refine c6 [2,7] [1,2,3] [2] ?_
 refine oC J J J J (kW _ r (Z1 _) ace) ?_
 refine wS [3003] [1,2,5] [2] ?_ ?_<;>intro h1
 refine wZ [9] ?_
 refine aA J ?_;rotate_left
 refine wA [6] [2,7] [2] ?_
 refine oN J J J J J (Cr false _ r (Z1 _) h ach) ?_
 refine wZ [4] ?_
 refine aA J ?_;rotate_left
 all_goals
  first|(rw[show dy r=dG from if_neg (by simp_all)];first|done|rfl)|(rw[show dy r=aJ false r from if_pos ach];first|done|rfl)
end Go.Proofs.YtlapahnodhmcpaaGreat
namespace Go.Wf
open Go.Am Go.Wb Go.Wc
def fP (x:Int):Rx:=.mk 2 [x] []
def Ot (x y:Rx):Rx:=dy (pR [x,y])
def jc (A:Nat)(n:Int):Rx:=if n % 8≤2 then .mk 1 [] [] else if n % 8=3 then fP 62 else if n % 8=4 then fP (n / 8 % (A:Int)) else if n % 8=5 then Ot (fP (n / 8 % (A:Int))) (fP (n / 8 / 7 % (A:Int)))
 else if n % 8=6 then Ot (fP (n / 8 % (A:Int))) (fP 62) else Ot (fP (n / 8 % (A:Int))) (fP 63)
theorem Ou {x:Int}(h:0≤x∧x<64):Nf (fP x):=.set (by
 unfold jS
 have hx:vM [x] 0:=by unfold vM;exact⟨h.1,h.2,fun q=>absurd q acg⟩
 simp[hx])
theorem mj (x:Int):(fP x).size=2:=by unfold fP;rw[eF];rfl
theorem sf {x y:Int}(hx:0≤x∧x<64)(hy:0≤y∧y<64):∀z∈[fP x,fP y],Nf z:=fun z hz=>by
 simp only[aah,abU,or_false] at hz
 rcases hz with rfl|rfl
 ·exact Ou hx
 ·exact Ou hy
theorem ky (x y:Int):Rx.aB [fP x,fP y]=4:=by rw[Rx.aB,Rx.aB,Rx.aB,mj,mj]
theorem qK {l:List Rx}(h:∀x∈l,Nf x):(pR l).size≤2+Rx.aB l:=by rw[wj h];exact zZ l
theorem uQ {x y:Int}(hx:0≤x∧x<64)(hy:0≤y∧y<64):(Ot (fP x) (fP y)).size≤12:=by
 have h1:=qK (sf hx hy)
 have h2:=z8 (pR [fP x,fP y])
 rw[ky] at h1
 unfold Ot;omega
theorem uR {A:Nat}(hA:0<A∧A≤60)(n:Int):0≤n % (A:Int)∧n % (A:Int)<64:=by
 have h1:=Int.emod_nonneg n (show(A:Int)≠0 by omega)
 have h2:=ab6 n (show 0<(A:Int) by omega)
 omega
theorem EW {A:Nat}(hA:0<A∧A≤60)(n:Int):(jc A n).size≤12:=by
 unfold jc
 split
 · decide
 · split
   · rw[mj];omega
   · split
     · rw[mj];omega
     · split
       · exact uQ (uR hA _) (uR hA _)
       · split
         · exact uQ (uR hA _) ace
         · exact uQ (uR hA _) ace
def yE (A:Nat)(x:Int):Int:=if x % 13=0 then 63 else x % (A:Int)
def j3 (A:Nat)(l:List Int)(i k:Nat):eH:=⟨yE A (aw l (9*i+5+k)),fG A (aw l (9*i+5+k) / 3) 2⟩
def fH (A:Nat)(l:List Int)(i:Nat):Nat→List eH
 | 0=>[]
 | k+1=>if k=0∨(j3 A l i k).src≠((fH A l i k).getD 0 default).src then fH A l i k++[j3 A l i k] else fH A l i k
theorem lK {A:Nat}{l:List Int}{i k:Nat}(h:k=0∨(j3 A l i k).src≠((fH A l i k).getD 0 default).src):fH A l i (k+1)=fH A l i k++[j3 A l i k]:=if_pos h
theorem tG {A:Nat}{l:List Int}{i k:Nat}(h:¬(k=0∨(j3 A l i k).src≠((fH A l i k).getD 0 default).src)):fH A l i (k+1)=fH A l i k:=if_neg h
theorem uS (A:Nat)(l:List Int)(i:Nat):∀k,(fH A l i k).length≤k∧(0<k→0<(fH A l i k).length)
 | 0=>⟨Z1 _,fun h=>absurd h ace⟩
 | k + 1 => by
   have:=uS A l i k
   by_cases h:k=0∨(j3 A l i k).src≠((fH A l i k).getD 0 default).src
   · rw[lK h,aab];show _+1≤_∧(_→0<_+1);omega
   · rw [tG h]
     have h0:k≠0:=fun q=>h (.inl q)
     omega
def yF (A:Nat)(l:List Int)(i:Nat):aG:=⟨[114]++gQ ((i:Int)+1),fH A l i (1+aw l (9*i+4) % 2).toNat,jc A (aw l (9*i+2)),jc A (aw l (9*i+3))⟩
theorem yH (A:Nat)(n most:Int):(fG A n most).length=(n % (most+1)).toNat:=by unfold fG;rw[Z0,aai]
end Go.Wf
namespace Go.Proofs.YtlapahnodhmcpaaGreat
open Go.Am Go.Wb Go.Wc Go.Wf Go.We
theorem YN:tP Tryz.prog 90 Tryz.f90.ntmps 4 87 3 (Tryz.f90.body.getD .skip):=⟨Tryz.f90,Tryz.func90,rfl,rfl,rfl,acf,iC,bX⟩
theorem tH {a:List cQ}{n:Int}(ha:0<a.length∧a.length≤60)(hn:0≤n∧n≤1000000000):aX Tryz.prog 90 [ah a,int n] (.p (rx (jc a.length n))):=by
 have hk:=uR ha (n / 8)
 have hk7:=uR ha (n / 8 / 7)
 refine bk YN (ZZ J) fun w0 M0 aa=>?_
 refine zM [8,7,0,0,5000] ?_
 refine oN J J J J J (mf [n / 8 % (a.length:Int)]) ?_
 refine wZ [6,5000] ?_
 refine oN J J J J J (mf [62]) ?_
 refine wS [8,3010] [0,4,5,6,7,19,20] [4,6,7] ?_ ?_<;>intro h1
 refine wZ [13] ?_
 refine aA J ?_;rotate_left
 refine wS [3007] [0,4,5,6,7,19,20] [4,6,7] ?_ ?_<;>intro h2
 refine wZ [13] ?_
 refine aA J ?_;rotate_left
 refine wS [3006] [0,4,5,6,7,19,20] [4,6,7] ?_ ?_<;>intro h3
 refine wZ [10] ?_
 refine aA J ?_;rotate_left
 refine wS [3007] [0,4,5,6,7,19,25] [4,6,7] ?_ ?_<;>intro h4
 refine wZ [10] ?_
 refine aA J ?_;rotate_left
 refine wS [3007] [0,4,5,6,7,19,28] [4,6,7] ?_ ?_<;>intro h5
 refine wZ [10] ?_
 refine aA J ?_;rotate_left
 refine wS [3007] [0,4,5,6,7,19,31] [4,6,7] ?_ ?_<;>intro h6
 refine wZ [2002,6002,6001,6000,6000,5000] ?_
 refine oF J J J J J J J (mf [n / 8 / 7 % (a.length:Int)]) ?_
 refine wZ [6000,5000] ?_
 refine oF J J J J J J J (nT (l:=[fP (n / 8 % (a.length:Int)),fP (n / 8 / 7 % (a.length:Int))]) (sf ace ace) (by rw[ky];omega)) ?_
 refine oF J J J J J J J (gg (r:=pR [fP (n / 8 % (a.length:Int)),fP (n / 8 / 7 % (a.length:Int))]) (by have:=qK (sf (x:=n / 8 % (a.length:Int)) (y:=n / 8 / 7 % (a.length:Int)) ace ace);rw[ky] at this;omega)) ?_
 refine c7 acf ?_
 refine ea J (aV J J J bX J J J J acg J J aa) ?_
 refine fZ ?_
 refine Cx [4] ?_
 refine aA J ?_;rotate_left
 refine wS [3007] [4,6,7,44] [4,6,7] ?_ ?_<;>intro h7
 refine wZ [5,5000] ?_
 refine oN J J J J J (nT (l:=[fP (n / 8 % (a.length:Int)),fP (62)]) (sf ace ace) (by rw[ky];omega)) ?_
 refine wA [0] [4,49] [4] ?_
 refine oN J J J J J (gg (r:=pR [fP (n / 8 % (a.length:Int)),fP (62)]) (by have:=qK (sf (x:=n / 8 % (a.length:Int)) (y:=62) ace ace);rw[ky] at this;omega)) ?_
 refine wZ [6] ?_
 refine aA J ?_;rotate_left
 refine wZ [2005,6001,5000] ?_
 refine oF J J J J J J J (mf [63]) ?_
 refine wZ [6000,5000] ?_
 refine oF J J J J J J J (nT (l:=[fP (n / 8 % (a.length:Int)),fP (63)]) (sf ace ace) (by rw[ky];omega)) ?_
 refine oF J J J J J J J (gg (r:=pR [fP (n / 8 % (a.length:Int)),fP (63)]) (by have:=qK (sf (x:=n / 8 % (a.length:Int)) (y:=63) ace ace);rw[ky] at this;omega)) ?_
 refine c7 acf ?_
 refine ea J (aV J J J bX J J J J acg J J aa) ?_
 refine fZ ?_
 refine Cx [2] ?_
 refine aA J ?_;rotate_left
 all_goals
  unfold jc
  first
   | (rw[if_pos ace];rfl)
   | (rw[if_neg ace,if_pos ace];rfl)
   | (rw[if_neg ace,if_neg ace,if_pos ace];rfl)
   | (rw[if_neg ace,if_neg ace,if_neg ace,if_pos ace];rfl)
   | (rw[if_neg ace,if_neg ace,if_neg ace,if_neg ace,if_pos ace];rfl)
   | (rw[if_neg ace,if_neg ace,if_neg ace,if_neg ace,if_neg ace];rfl)
theorem YO:tP Tryz.prog 63 Tryz.f63.ntmps 6 89 8 (Tryz.f63.body.getD .skip):=⟨Tryz.f63,Tryz.func63,rfl,rfl,rfl,acf,XJ,UJ⟩
theorem Ko {a:List cQ}{l:List Int}{i:Nat}(ha:0<a.length∧a.length≤60)(hl:l.length≤9223372036854775807)(h64:iM l)(hi:i≤10):aX Tryz.prog 63 [ah a,ints l,int i] (.p (bm (yF a.length l i))):=by
 have hb:=fun k=>Cc l k
 have hns:=nS ((i:Int)+1)
 have h4:=hb (9*i+4)
 refine bk YO (ZZ J) fun w0 M0 aa=>?_
 refine zM [8,5000] ?_
 refine oN J J J J J (jI (n:=(i:Int)+1) ace) ?_
 refine wA [0] [0,1,2,6,14] [6] ?_
 refine oP J (jz J J J (by simp only[Z2,Z9];omega)) ?_
 refine wZ [3,5000] ?_
 refine oP J (dF (a':=((9*i+2:Nat):Int)) (cH J J J ace) ace) ?_
 refine wA [0] [0,1,2,6,15,16,17,20] [6] ?_
 refine oC J J J J (eZ (i:=9*i+2) h64 hl ace) ?_
 refine oN J J J J J (tH (n:=aw l (9*i+2)) ha (by have:=hb (9*i+2);omega)) ?_
 refine wZ [3,5000] ?_
 refine oP J (dF (a':=((9*i+3:Nat):Int)) (cH J J J ace) ace) ?_
 refine wA [0] [0,1,2,6,15,22,23,24,27] [6] ?_
 refine oC J J J J (eZ (i:=9*i+3) h64 hl ace) ?_
 refine oN J J J J J (tH (n:=aw l (9*i+3)) ha (by have:=hb (9*i+3);omega)) ?_
 refine wZ [9,5000] ?_
 refine oP J (dF (a':=((9*i+4:Nat):Int)) (cH J J J ace) ace) ?_
 refine wA [0] [0,1,2,6,7,31,34] [6,7] ?_
 refine oC J J J J (eZ (i:=9*i+4) h64 hl ace) ?_
 refine wA [0,0,5] [0,1,2,6,7,8] [6,7] ?_
 refine bL 7 1 40 132 89 aa J J J J ?_
 refine gS [5] [0,1,2,6,7,8,9] [6,7,40] ?_
 have h4:=hb (9*i+4)
 have h42:0≤aw l (9*i+4) % 2∧aw l (9*i+4) % 2<2:=ace
 refine lp (fun zm zs=>∃k:Nat,zm=2-k∧((k:Int)≤1+aw l (9*i+4) % 2)∧zs=⟨82,[(0,vvw (ah a)),(1,vvw (ints l)),(2,vvw (int i)),(6,.pbox 6 0),(7,.pbox 7 0),(8,vvw (int (1+aw l (9*i+4) % 2))),(9,vvw (int k))],[(6,.box 89 [vvw (.sc (.string ⟨#[]⟩)),vvv,vvw (.sc (.int .i64 0)),vvv,vvv,vvw (.sc (.int .i64 0)),vvv,vvv]),(7,.box 89 [vvw (aj ([114]++gQ ((i:Int)+1))),.own 40,vvw (int (jc a.length (aw l (9*i+2))).kind),vvw (ints (jc a.length (aw l (9*i+2))).syms),vvw (.sl (Rx.gi (jc a.length (aw l (9*i+2))).kids)),vvw (int (jc a.length (aw l (9*i+3))).kind),vvw (ints (jc a.length (aw l (9*i+3))).syms),vvw (.sl (Rx.gi (jc a.length (aw l (9*i+3))).kids))]),(40,.arr 132 ((fH a.length l i k).map x3))]⟩) ?_ ?_
 exact⟨_,0,rfl,ace,rfl⟩
 rintro zm zs ⟨k,rfl,aZ,rfl⟩
 have hpl:=uS a.length l i k
 have hbk:=hb (9*i+5+k)
 refine wS [3008] [0,1,2,6,7,8,9,40] [6,7,40] ?_ ?_<;>intro h1
 refine wA [9,0,1] [0,1,2,6,7,8,9,43,46,47] [6,7,40] ?_
 refine oP J (dF (a':=((9*i+5+k:Nat):Int)) (cH J J J ace) ace) ?_
 refine oC J J J J (eZ (i:=9*i+5+k) h64 hl ace) ?_
 refine wA [4] [0,1,2,6,7,8,9,10] [6,7,40] ?_
 refine bw (n:=82) 2 (fun p=>[9,10].getD p 0) (fun p=>[[(6,.box 89 [vvw (.sc (.string ⟨#[]⟩)),vvv,vvw (.sc (.int .i64 0)),vvv,vvv,vvw (.sc (.int .i64 0)),vvv,vvv]),(7,.box 89 [vvw (aj ([114]++gQ ((i:Int)+1))),.own 40,vvw (int (jc a.length (aw l (9*i+2))).kind),vvw (ints (jc a.length (aw l (9*i+2))).syms),vvw (.sl (Rx.gi (jc a.length (aw l (9*i+2))).kids)),vvw (int (jc a.length (aw l (9*i+3))).kind),vvw (ints (jc a.length (aw l (9*i+3))).syms),vvw (.sl (Rx.gi (jc a.length (aw l (9*i+3))).kids))]),(40,.arr 132 ((fH a.length l i k).map x3))],[(6,.box 89 [vvw (.sc (.string ⟨#[]⟩)),vvv,vvw (.sc (.int .i64 0)),vvv,vvv,vvw (.sc (.int .i64 0)),vvv,vvv]),(7,.box 89 [vvw (aj ([114]++gQ ((i:Int)+1))),.own 40,vvw (int (jc a.length (aw l (9*i+2))).kind),vvw (ints (jc a.length (aw l (9*i+2))).syms),vvw (.sl (Rx.gi (jc a.length (aw l (9*i+2))).kids)),vvw (int (jc a.length (aw l (9*i+3))).kind),vvw (ints (jc a.length (aw l (9*i+3))).syms),vvw (.sl (Rx.gi (jc a.length (aw l (9*i+3))).kids))]),(11,.box 132 [vvw (int 0),vvv]),(40,.arr 132 ((fH a.length l i k).map x3))],[(6,.box 89 [vvw (.sc (.string ⟨#[]⟩)),vvv,vvw (.sc (.int .i64 0)),vvv,vvv,vvw (.sc (.int .i64 0)),vvv,vvv]),(7,.box 89 [vvw (aj ([114]++gQ ((i:Int)+1))),.own 40,vvw (int (jc a.length (aw l (9*i+2))).kind),vvw (ints (jc a.length (aw l (9*i+2))).syms),vvw (.sl (Rx.gi (jc a.length (aw l (9*i+2))).kids)),vvw (int (jc a.length (aw l (9*i+3))).kind),vvw (ints (jc a.length (aw l (9*i+3))).syms),vvw (.sl (Rx.gi (jc a.length (aw l (9*i+3))).kids))]),(11,.box 132 [vvw (int (aw l (9*i+5+k) % (a.length:Int))),vvw (ints (fG a.length (aw l (9*i+5+k) / 3) 2))]),(40,.arr 132 ((fH a.length l i k).map x3))]].getD p []) 11 [(0,none),(1,none),(2,none),(3,none),(4,none),(5,none),(6,none),(7,none),(8,none)] [(50,vvw (int (aw l (9*i+5+k)))),(51,vvw (ah a)),(52,vvw (int a.length)),(53,vvw (int (aw l (9*i+5+k) % (a.length:Int)))),(54,vvw (ah a)),(55,vvw (int (aw l (9*i+5+k)))),(56,vvw (int (aw l (9*i+5+k) / 3))),(57,vvw (ints (fG a.length (aw l (9*i+5+k) / 3) 2))),(58,vvw (x3 ⟨aw l (9*i+5+k) % (a.length:Int),fG a.length (aw l (9*i+5+k) / 3) 2⟩)),(11,.pbox 11 0),(0,vvw (ah a)),(1,vvw (ints l)),(2,vvw (int i)),(6,.pbox 6 0),(7,.pbox 7 0),(8,vvw (int (1+aw l (9*i+4) % 2))),(9,vvw (int k)),(10,vvw (int (aw l (9*i+5+k))))] mixed acf acf acf acf acf ?_ (fun t d h=>h) J ?_ ?_ ?_
 ·rfl
 ·exact
  ai (fun _=>(af J J)) (
  ai (fun _=>(af J J)) (
  ai (fun _=>(gy J Tryz.underlying23 J)) (
  ai (fun _=>(jA J J J ace)) (
  ai (fun _=>(af J J)) (
  ai (fun _=>(af J J)) (
  ai (fun _=>(fw J J J ace)) (
  ai (fun _=>(bC J J J ((aq.weaken (cW (n:=aw l (9*i+5+k) / 3) (most:=2) ace (by have:=hb (9*i+5+k);omega) ace))) aa)) (
  ai (fun _=>(aF J UP Ru J J J)) (
  trivial)))))))))
 ·exact ai (fun X fl dO dh=>gZ (t:=11) rfl rfl rfl rfl fl Ru rfl rfl (fun t' z h hne=>fz (by rfl) (dO t' z h) hne) rfl aa) (ai (fun X fl dO dh=>cr rfl (cq (u:=11) (v:=58) (id:=11) rfl rfl fl UO ((dh 11 acg).trans rfl) rfl ((dh 58 acg).trans rfl) rfl acg rfl rfl (fun t' z h=>cO (by rfl) (dO t' z h)) rfl aa)) (trivial))
 refine bO (n:=0) acf ?_
 refine bg acf ?_
 refine jl [5] [0,1,2,6,7,8,9,11,59] [6,7,11,40] ?_
 refine wS [0,3003] [0,1,2,6,7,8,9,11,61] [6,7,11,40] ?_ ?_<;>intro h2
 refine wS [2007,7003] [0,1,2,6,7,8,9,11,65] [6,7,11,40] ?_ ?_<;>intro h3'
 refine wA [16,1000,7,9002] [0,1,2,6,7,8,9] [6,7,40] ?_
 have e:j3 a.length l i k=⟨63,fG a.length (aw l (9*i+5+k) / 3) 2⟩:=by unfold j3 yE;rw[if_pos ace]
 exact⟨_,⟨k+1,rfl,ace,by rw[lK (.inl (by simp_all)),e,Z8];rfl⟩,ace⟩
 refine wZ [6004,5000] ?_
 refine oD J J J (lO J HN J J) ?_
 refine wS [6000,3004] [0,1,2,6,7,8,9,11,74] [6,7,11,40] ?_ ?_<;>intro h4
 refine wA [5,1000,7,9002] [0,1,2,6,7,8,9] [6,7,40] ?_
 have e:j3 a.length l i k=⟨63,fG a.length (aw l (9*i+5+k) / 3) 2⟩:=by unfold j3 yE;rw[if_pos ace]
 exact⟨_,⟨k+1,rfl,ace,by rw[lK (.inr (by rw[e];simp_all)),e,Z8];rfl⟩,ace⟩
 refine wA [6,9002] [0,1,2,6,7,8,9] [6,7,40] ?_
 have e:j3 a.length l i k=⟨63,fG a.length (aw l (9*i+5+k) / 3) 2⟩:=by unfold j3 yE;rw[if_pos ace]
 exact⟨_,⟨k+1,rfl,ace,by rw[tG (by rw[e];simp_all)];rfl⟩,ace⟩
 refine wS [2004,7003] [0,1,2,6,7,8,9,11,65] [6,7,11,40] ?_ ?_<;>intro h5'
 refine wA [16,1000,7,9002] [0,1,2,6,7,8,9] [6,7,40] ?_
 have e:j3 a.length l i k=⟨aw l (9*i+5+k) % (a.length:Int),fG a.length (aw l (9*i+5+k) / 3) 2⟩:=by unfold j3 yE;rw[if_neg ace]
 exact⟨_,⟨k+1,rfl,ace,by rw[lK (.inl (by simp_all)),e,Z8];rfl⟩,ace⟩
 refine wZ [6004,5000] ?_
 refine oD J J J (lO J HN J J) ?_
 refine wS [6000,3004] [0,1,2,6,7,8,9,11,74] [6,7,11,40] ?_ ?_<;>intro h6
 refine wA [5,1000,7,9002] [0,1,2,6,7,8,9] [6,7,40] ?_
 have e:j3 a.length l i k=⟨aw l (9*i+5+k) % (a.length:Int),fG a.length (aw l (9*i+5+k) / 3) 2⟩:=by unfold j3 yE;rw[if_neg ace]
 exact⟨_,⟨k+1,rfl,ace,by rw[lK (.inr (by rw[e];simp_all)),e,Z8];rfl⟩,ace⟩
 refine wA [6,9002] [0,1,2,6,7,8,9] [6,7,40] ?_
 have e:j3 a.length l i k=⟨aw l (9*i+5+k) % (a.length:Int),fG a.length (aw l (9*i+5+k) / 3) 2⟩:=by unfold j3 yE;rw[if_neg ace]
 exact⟨_,⟨k+1,rfl,ace,by rw[tG (by rw[e];simp_all)];rfl⟩,ace⟩
 refine wA [7] [6,7] [6,7,40] ?_
 refine ao.imp (hJ 7 1 aa J J J J) ?_
 refine Cw [6] ?_
 refine aA J ?_
 unfold yF;rw[show(1+aw l (9*i+4) % 2).toNat=k by omega];rfl
end Go.Proofs.YtlapahnodhmcpaaGreat
namespace Go.Wf
open Go.Am Go.Wb Go.Wc
def ry (R:List aG)(n:Int):List (List UInt8):=if R.length=0 then[] else(List.range (n % 3).toNat).map fun i:Nat=>(R.getD ((n / 3+(i:Int)) % (R.length:Int)).toNat default).name
theorem EX (R:List aG)(n:Int):(ry R n).length≤2:=by
 unfold ry;split
 ·exact Z5 _
 ·rw[Z0,aai];omega
def kI (l:List Int)(i k:Nat):List Int:=((List.range k).filter fun j=>decide (j=i)||decide (aw l (1+i) / ((j:Int)+1) % 3=0)).map fun j:Nat=>(j:Int)
theorem EY {l:List Int}{i k:Nat}(h:k=i∨aw l (1+i) / ((k:Int)+1) % 3=0):kI l i (k+1)=kI l i k++[(k:Int)]:=by
 unfold kI
 rw[aaP,aaW,Z8,aaN,if_pos (by simpa using h),abp];rfl
theorem QK {l:List Int}{i k:Nat}(h:¬(k=i∨aw l (1+i) / ((k:Int)+1) % 3=0)):kI l i (k+1)=kI l i k:=by
 unfold kI
 rw[aaP,aaW,Z8,aaN,if_neg (by simpa using h),abp,aa9,aav]
theorem eA (l:List Int)(i k:Nat):(kI l i k).length≤k:=by
 unfold kI;rw[Z0]
 exact aau (aba _ _) (by rw[aai];exact Z1 _)
abbrev GW:List (List UInt8):=[[118],[108,111,110,103,46,115,101,116,45,50]]
def YP (A:Nat)(l:List Int)(i:Nat):P4:=⟨GW.getD i default,kI l i A⟩
def gv (A:Nat)(l:List Int)(R:List aG)(i k:Nat):gL:=⟨[99]++gQ ((k:Int)+1),fG A (aw l (40+5*i+k) % 2) 1,fG A (aw l (40+5*i+k) / 2) 2,ry R (aw l (40+5*i+k) / 9)⟩
def gH (A:Nat):Rx:=.mk 2 ((List.range A).map fun k:Nat=>(k:Int)) []
def bU (A:Nat):Rx:=rh (gH A)
def kg (A:Nat)(x:Int):Rx:=if x % 5=4 then dy (cU [gH A,bU A]) else if x % 5=3 then dy (cU [bU A,fP (x / 5 % (A:Int))]) else dy (bU A)
def Ov (A:Nat)(l:List Int)(R:List aG)(i:Nat):iq:=⟨[110]++gQ ((i:Int)+1),kg A (aw l (31+i)),aw l (31+i) % 2,(List.range (2+aw l (31+i) / 7 % 3).toNat).map (gv A l R i)⟩
def eI (A:Nat)(l:List Int)(k:Nat):List P4:=(List.range k).map (YP A l)
def dg (A:Nat)(l:List Int)(k:Nat):List aG:=(List.range k).map (yF A l)
def eD (A:Nat)(l:List Int)(R:List aG)(k:Nat):List iq:=(List.range k).map (Ov A l R)
def gR (A:Nat)(l:List Int):List aG:=dg A l (1+aw l 1 % 3).toNat
def EZ (A:Nat)(l:List Int):aI:=⟨eI A l (aw l 0 % 3).toNat,gR A l,eD A l (gR A l) (1+aw l 30 % 3).toNat,ry (gR A l) (aw l 60)⟩
theorem qL (A:Nat)(l:List Int)(k:Nat):(dg A l k).length=k:=by unfold dg;rw[Z0,aai]
theorem AS {A j:Nat}(h:j<A):((List.range A).map fun k:Nat=>(k:Int)).getD j default=(j:Int):=by
 rw[dT (by simpa using h)];simp
theorem E0 {A:Nat}(hA:0<A∧A≤60):Nf (gH A):=.set (by
 unfold jS
 refine decide_eq_true ⟨by simpa using hA.1,fun j hj=>?_⟩
 have hj:j<A:=by simpa using hj
 unfold vM
 rw[AS hj]
 refine⟨ace,ace,fun h0=>?_⟩
 rw[show((j:Int)-1).toNat=j-1 by omega,AS ace];omega)
theorem sh (A:Nat):(gH A).size=1+A:=by unfold gH;rw[eF,Z0,aai];rfl
theorem Ow {A:Nat}(hA:0<A∧A≤60):(bU A).size≤2+A:=by
 unfold bU
 rw[DV (E0 hA)]
 have:=xD (gH A)
 rw[sh] at this;omega
theorem qM (x y:Rx):Rx.aB [x,y]=x.size+y.size:=by rw[Rx.aB,Rx.aB,Rx.aB];omega
theorem qd (x y:Rx):(cU [x,y]).size≤1+x.size+y.size:=by have:=ug [x,y];rw[qM] at this;omega
theorem Kp {A:Nat}(hA:0<A∧A≤60)(x:Int):(kg A x).size≤300∧(dy (kg A x)).size≤300:=by
 have h1:=Ow hA
 have h2:=sh A
 have h3:=mj (x / 5 % (A:Int))
 have key:∀r:Rx,r.size≤150→(dy r).size≤300∧(dy (dy r)).size≤300:=fun r h=>by
  have:=z8 r
  rw[Pb (qB r)];omega
 unfold kg
 split
 ·exact key _ (by have:=qd (gH A) (bU A);omega)
 ·split
  ·exact key _ (by have:=qd (bU A) (fP (x / 5 % (A:Int)));omega)
  ·exact key _ ace
theorem si {A:Nat}{l:List Int}{i:Nat}:∀{k:Nat}{p:eH},p∈fH A l i k→p.dst.length≤2
 | 0,p,h=>by cases h
 | k + 1, p, h => by
   by_cases q:k=0∨(j3 A l i k).src≠((fH A l i k).getD 0 default).src
   · rw [lK q] at h
     rcases aaC.1 h with h|h
     · exact si h
     · rw [aag.1 h]
       show(fG A _ 2).length≤2
       rw[yH];omega
   · rw[tG q] at h;exact si h
theorem Ox {A:Nat}(hA:0<A∧A≤60)(l:List Int)(i:Nat):Qg (yF A l i):=by
 have h1:=EW hA (aw l (9*i+2))
 have h2:=EW hA (aw l (9*i+3))
 have h3:=(uS A l i (1+aw l (9*i+4) % 2).toNat).1
 refine⟨?_,fun p hp=>aau (si hp) acg,?_,?_⟩
 ·show(fH A l i _).length≤_;omega
 ·show(jc A _).size≤_;omega
 ·show(jc A _).size≤_;omega
theorem Kq {A:Nat}(hA:0<A∧A≤60)(l:List Int)(R:List aG)(i:Nat):WL (Ov A l R i):=by
 have hf:=Kp hA (aw l (31+i))
 refine⟨?_,fun x hx=>?_,?_,?_⟩
 ·show(List.map _ _).length≤_
  rw[Z0,aai];omega
 ·obtain⟨k,_,rfl⟩:=aao.1 hx
  refine⟨?_,?_,aau (EX _ _) acg⟩
  ·show(fG A _ 1).length≤_;rw[yH];omega
  ·show(fG A _ 2).length≤_;rw[yH];omega
 ·show(kg A _).size≤_;omega
 ·show(dy (kg A _)).size≤_;omega
theorem yI {A:Nat}(hA:0<A∧A≤60)(l:List Int):sk (EZ A l):=by
 refine⟨?_,fun r hr=>?_,?_,fun c hc=>?_,aau (EX _ _) acg⟩
 ·show(dg A l _).length≤_;rw[qL];omega
 ·obtain⟨i,_,rfl⟩:=aao.1 hr;exact Ox hA l i
 ·show(List.map _ _).length≤_;rw[Z0,aai];omega
 ·obtain⟨i,_,rfl⟩:=aao.1 hc;exact Kq hA l _ i
theorem AT (A:Nat)(l:List Int):0<(EZ A l).classes.length∧(EZ A l).classes.length≤3:=by
 show 0<(List.map _ _).length∧(List.map _ _).length≤3
 have:=Cc l 30
 rw[Z0,aai];omega
end Go.Wf
namespace Go.Proofs.YtlapahnodhmcpaaGreat
open Go.Am Go.Wb Go.Wc Go.Wf Go.We
abbrev YQ:=dU 4 Tryz.func71
theorem nU {g:aI}{n:Int}(hr:g.rules.length≤1000)(hn:0≤n∧n≤1000000000):aq Tryz.prog 71 [df g,int n] (.fresh 9 ((ry g.rules n).map aj)):=by
 refine cF YQ fun w0 M0 aa=>?_
 refine c6 [2,1005,9] [1,2,5,6] [5] ?_
 refine lp (fun zm zs=>∃i:Nat,zm=3-i∧((i:Int)≤n % 3)∧(0<i→0<g.rules.length)∧zs=⟨36,[(1,vvz (int n)),(2,vvz (.pc (rj g) 0)),(5,.own 5),(6,vvw (int i))],[(5,.arr 9 (((List.range i).map fun i:Nat=>(g.rules.getD ((n / 3+(i:Int)) % (g.rules.length:Int)).toNat default).name).map aj))]⟩) ?_ ?_
 exact⟨_,0,rfl,ace,ace,rfl⟩
 rintro zm zs ⟨i,rfl,aZ,au,rfl⟩
 refine wS [5,4002] [1,2,5,6,11] [5] ?_ ?_<;>intro h1'
 refine wS [2,3004] [1,2,5,6,16] [5] ?_ ?_<;>intro h2
 have hi1:=Int.emod_nonneg (n / 3+(i:Int)) (show(g.rules.length:Int)≠0 by omega)
 have hi2:=ab6 (n / 3+(i:Int)) (show 0<(g.rules.length:Int) by omega)
 refine wA [5] [1,2,5,6] [5] ?_
 refine bw (n:=36) 1 (fun p=>[15].getD p 0) (fun p=>[[(5,.arr 9 (((List.range i).map fun i:Nat=>(g.rules.getD ((n / 3+(i:Int)) % (g.rules.length:Int)).toNat default).name).map aj))],[(34,.arr 9 (((List.range i).map fun i:Nat=>(g.rules.getD ((n / 3+(i:Int)) % (g.rules.length:Int)).toNat default).name).map aj++[aj (g.rules.getD ((n / 3+(i:Int)) % (g.rules.length:Int)).toNat default).name]))]].getD p []) 16 [(0,some [0]),(1,none),(2,none),(3,none),(4,none),(5,none),(6,none),(7,none),(8,none),(9,none),(10,none),(11,none),(12,none),(13,none),(14,none)] [(19,.own 5),(20,vvz (.pc (rj g) 1)),(21,vvz (.sl (g.rules.map bm))),(22,vvz (int n)),(23,vvw (int (n / 3))),(24,vvw (int i)),(25,vvw (int (n / 3+(i:Int)))),(26,vvz (.pc (rj g) 1)),(27,vvz (.sl (g.rules.map bm))),(28,vvw (int g.rules.length)),(29,vvw (int ((n / 3+(i:Int)) % (g.rules.length:Int)))),(30,vvz (.pc (HO (g.rules.getD ((n / 3+(i:Int)) % (g.rules.length:Int)).toNat default)) 0)),(31,vvz (.pc (HO (g.rules.getD ((n / 3+(i:Int)) % (g.rules.length:Int)).toNat default)) 0)),(32,vvw (aj (g.rules.getD ((n / 3+(i:Int)) % (g.rules.length:Int)).toNat default).name)),(33,vvw (.sl [aj (g.rules.getD ((n / 3+(i:Int)) % (g.rules.length:Int)).toNat default).name])),(34,.own 34),(1,vvz (int n)),(2,vvz (.pc (rj g) 0)),(5,.own 5),(6,vvw (int i))] mixed acf acf acf acf acf ?_ (fun t d h=>h) J ?_ ?_ ?_
 ·rfl
 ·exact
   ai (ai ((af J J)) (trivial)) (
   ai (fun _=>(b9 J F6 J)) (
   ai (fun _=>(cA J PM J J)) (
   ai (fun _=>(af J J)) (
   ai (fun _=>(fw J J J ace)) (
   ai (fun _=>(af J J)) (
   ai (fun _=>(cH J J J ace)) (
   ai (fun _=>(b9 J F6 J)) (
   ai (fun _=>(cA J PM J J)) (
   ai (fun _=>(gy J Tryz.underlying25 J)) (
   ai (fun _=>(jA J J J ace)) (
   ai (fun _=>(j2 (f:=bm) (l:=g.rules) (i:=((n / 3+(i:Int)) % (g.rules.length:Int)).toNat) (z:=g.rules.getD ((n / 3+(i:Int)) % (g.rules.length:Int)).toNat default) J J Tryz.underlying25 UJ J J ace (fun _=>rfl))) (
   ai (fun _=>(b9 J Td J)) (
   ai (fun _=>(Lz (cA J Uy J J))) (
   ai (fun _=>(bY J Tryz.underlying27 Uz J J J J aa)) (
   trivial)))))))))))))))
 ·exact ai (fun X fl dO dh=>db (T:=27) (t:=34) (u:=19) (id:=5) (y:=.tmp 33) rfl rfl rfl fl Tryz.underlying27 Uz ((dh 19 acg).trans rfl) rfl (cZ (jR ((dh 33 acg).trans rfl)) (cw (by rfl))) (by rw[Z0,Z0,aai];simp only[Z2,Z9];omega) (by rw[Z0,Z0,aai];simp only[Z2,Z9];omega) rfl dO rfl rfl rfl aa) (trivial)
 refine bO (n:=1) acf ?_
 refine xe 16 ?_
 refine bg acf ?_
 refine jl [2] [1,2,5,6] [34] ?_
 refine ao.imp (sQ 5 5 aa J J J J) ?_
 refine gS [2,9002] [1,2,5,6] [5] ?_
 exact⟨_,⟨i+1,rfl,ace,ace,by rw[aaP,Z8,Z8];rfl⟩,ace⟩
 refine wZ [8013] ?_;rotate_left
 refine wZ [8020] ?_;rotate_left
 all_goals
  unfold ry;by_cases h0:g.rules.length=0<;>first|(rw[if_pos h0,show i=0 by omega];rfl)|(rw[if_neg h0,show(n % 3).toNat=i by omega])
end Go.Proofs.YtlapahnodhmcpaaGreat
