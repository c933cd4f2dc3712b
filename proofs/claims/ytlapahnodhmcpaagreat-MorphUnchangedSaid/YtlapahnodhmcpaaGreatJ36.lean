/-
  Part of the proof.
-/
import Derived.Test.YtlapahnodhmcpaaGreatJ0
import Derived.Test.YtlapahnodhmcpaaGreatJ16
import Derived.Test.YtlapahnodhmcpaaGreatJ28
import Derived.Test.YtlapahnodhmcpaaGreatJ25
import Derived.Test.YtlapahnodhmcpaaGreatJ23
import Derived.Test.YtlapahnodhmcpaaGreatJ10
import Derived.Test.YtlapahnodhmcpaaGreatJ26
import Derived.Test.YtlapahnodhmcpaaGreatJ18
set_option linter.unusedVariables false
set_option linter.unusedSectionVars false
set_option linter.unusedSimpArgs false
set_option maxRecDepth 100000
set_option maxHeartbeats 40000000
namespace Go.Proofs.YtlapahnodhmcpaaGreat
open Go.Am Go.Wb
theorem Zz:um Tryz.prog 68 Tryz.f68.ntmps 2 87 3 (Tryz.f68.body.getD .skip):=⟨Tryz.f68,Tryz.func68,rfl,rfl,rfl,acL,ja,ca⟩
variable{l:List Rx}
theorem rl (hs:Rx.aB l≤1099511627776):aU Tryz.prog 68 [jM l] (.p (rx (cU l))):=by
 have hl:=dh l;refine bk Zz (aah J) fun w0 M0 aa=>?_
 refine c4 [1007,9] [0,2,3,4] [2,3] ?_;refine lr (fun zl zo zm zs=>∃i:Nat,zm=l.length-i∧(i≤l.length)∧(∀j,j<i→(l.getD j default).kind≠0)∧zs=eJ 56 [(3,.own 3),(4,vvw (int i))] zl [(3,.arr 87 ((ek (l.take i)).map rx))] zo) ?_ ?_;exact⟨_,0,rfl,aan _,fun j hj=>absurd hj acK,rfl⟩;rintro zm zs ⟨i,rfl,aY,aq,rfl⟩;have hroom:=fun h=>AH (l:=l) (i:=i) h
 refine wS [5,3003] [0,2,3,4,8] [2,3] ?_ ?_<;>intro h1;refine wS [10,3005] [0,2,3,4,16] [2,3] ?_ ?_<;>intro h2;refine wZ [14] ?_;refine aA J ?_;rotate_left;refine wS [7,3005] [0,2,3,4,23] [2,3] ?_ ?_<;>intro h3;refine wA [1] [0,2,3,4] [2,3] ?_;have hr:=hroom acK;refine wA [4,2] [0,2,4,24,29] [2,3] ?_;refine oS J (step_append J J J J Tryz.underlying85 ju J J aa (wY (l:=(l.getD i default).kids) J) (by first|(simp only[ll];omega)|omega) (by first|(simp only[ll];omega)|omega)) J ?_;refine wA [6,9002] [0,2,3,4] [2,3] ?_;rotate_left;refine wS [5,3005] [0,2,3,4,36] [2,3] ?_ ?_<;>intro h4;refine wA [1] [0,2,3,4] [2,3] ?_;have hr:=hroom acK;refine wA [4,1,1000,6,9002] [0,2,3,4] [2,3] ?_;rotate_left;refine wA [6,9002] [0,2,3,4] [2,3] ?_;rotate_left;refine wS [10,3003] [2,3,46] [2,3] ?_ ?_<;>intro h5;refine wZ [9] ?_;refine aA J ?_;rotate_left;refine wA [5] [2,3] [2,3] ?_;refine aI 56 [(2,_),(3,_)] [(2,_)] aa J ⟨.inl J,.inr ⟨_,_,rfl,rfl,rfl⟩,trivial⟩ ⟨rfl,trivial⟩ ?_;refine U0 [2,3003] [2,3,50] [2] ?_ ?_<;>intro h6;refine wZ [4,6] ?_;refine aA J ?_;rotate_left;refine wA [6] [2,54] [2] ?_;refine oN J J J J J (CD 3 (ek (l.take i))) ?_;refine wZ [4] ?_;refine aA J ?_;rotate_left
 all_goals first
  | (
    first|(rw[uz (i:=i) acK acK];rfl)|(rw[nM (fun j hj=>aq j acK)];rw[show ek l=ek (l.take i) by rw[aaB acK]];first|(rw[Gv acK];first|done|rfl)|(rw[Gw acK];first|done|rfl)|(rw[sj acK acK];first|done|rfl)|(rw[sj acK acK,mT];rfl));done)
  | (
    exact⟨_,⟨i+1,rfl,acK,bX aq acK,by rw[uy acK];first|(rw[mj acK,aaP];rfl)|(rw[iM acK,aas];rfl)|(rw[ef acK acK,aas];rfl)⟩,acK⟩;done)
abbrev Xi:=dF 4 Tryz.func134
theorem vj {x:Rx}(hs:Rx.aB l≤549755813888)(hx:x.size≤549755813888):aU Tryz.prog 134 [jM l,rx x] (.p (jM (ql l x))):=by
 have hl:=dh l;have hk:=fun k (h:k<l.length)=>gB (aQ h)
 refine cN Xi fun w0 M0 aa=>?_
 refine c4 [2,10] [0,3,5] [] ?_;refine lr (fun zl zo zm zs=>∃k:Nat,zm=l.length-k∧(k≤l.length)∧(∀j,j<k→df (l.getD j default) x<0)∧zs=eJ 48 [(5,vvw (int k))] zl [] zo) ?_ ?_;exact⟨_,0,rfl,aan _,fun j hj=>absurd hj acK,rfl⟩;rintro zm zs ⟨k,rfl,aY,aq,rfl⟩;refine wS [2002,6002,7002] [0,3,5,11] [] ?_ ?_<;>intro h1';refine wA [6002,2] [0,3,5,11,15,16] [] ?_;refine oE J J J J J J (rR _ (l.getD k default) x (aak _) (by have:=hk k acK;omega) acK) ?_;refine wS [3004] [0,3,5,19] [] ?_ ?_<;>intro h2;refine wA [6,9003] [0,3,5] [] ?_;exact⟨_,⟨k+1,rfl,acK,bX aq acK,rfl⟩,acK⟩;refine wS [2008,6002,7002] [0,3,5,26] [] ?_ ?_<;>intro h3';refine wA [6002,2] [0,3,5,26,30,31] [] ?_;refine oE J J J J J J (A9 (a:=l.getD k default) (b:=x) (by have:=hk k acK;omega) acK) ?_;refine wS [3003] [0,3,5,33] [] ?_ ?_<;>intro h4;refine wZ [8009] ?_;rotate_left;refine wA [9] [0,3,5,6] [] ?_;refine kx (n:=48) (o2:=[(39,.arr 87 ((l.take k).map rx))]) 4 7 [(35,vvv),(36,vvw (jM l)),(37,vvw (int k)),(38,vvw (jM (l.take k))),(39,.own 39),(40,vvw (.agg [int x.kind,ints x.syms,.sl (Rx.gA x.kids)])),(41,vvw (.sl [(.agg [int x.kind,ints x.syms,.sl (Rx.gA x.kids)])])),(0,vvw (jM l)),(3,vvw (.pc [int (x).kind,ints (x).syms,.sl (Rx.gA (x).kids)] 0)),(5,vvw (int k)),(6,vvv)] mixed acL acL acL J acL (fun t d h=>h) J ?_ ?_ ?_ ?_ ?_
 ·intro i hi;rcases(by omega:i=0∨i=1∨i=2∨i=3∨i=4∨i=5∨i=6) with rfl|rfl|rfl|rfl|rfl|rfl|rfl<;>exact⟨_,_,rfl,rfl⟩
 ·intro i o t d hi hia ho hd hG hn;rcases(by omega:i=0∨i=1∨i=2∨i=3∨i=5∨i=6) with rfl|rfl|rfl|rfl|rfl|rfl
  ·injection (show some _=some o from ho) with ho;subst ho;injection (show some _=some t from hd) with hd;subst hd;injection (show some _=some d from hG) with hG;subst hG;exact cH J J
  ·injection (show some _=some o from ho) with ho;subst ho;injection (show some _=some t from hd) with hd;subst hd;injection (show some _=some d from hG) with hG;subst hG;exact cH J J
  ·injection (show some _=some o from ho) with ho;subst ho;injection (show some _=some t from hd) with hd;subst hd;injection (show some _=some d from hG) with hG;subst hG;exact cH J J
  ·injection (show some _=some o from ho) with ho;subst ho;injection (show some _=some t from hd) with hd;subst hd;injection (show some _=some d from hG) with hG;subst hG;exact fi (f:=rx) (l:=l) (j:=(k:Int)) J Tryz.underlying85 ca J J acK (fun _=>rfl)
  ·injection (show some _=some o from ho) with ho;subst ho;injection (show some _=some t from hd) with hd;subst hd;injection (show some _=some d from hG) with hG;subst hG;exact aG (cs:=[int x.kind,ints x.syms,.sl (Rx.gA x.kids)]) (off:=0) J ja ca J (aah J)
  ·injection (show some _=some o from ho) with ho;subst ho;injection (show some _=some t from hd) with hd;subst hd;injection (show some _=some d from hG) with hG;subst hG;exact eu J Tryz.underlying85 ju J J J J aa
 ·intro i o t d hi hia ho hd hG hn;rcases(by omega:i=0∨i=1∨i=2∨i=3∨i=5∨i=6) with rfl|rfl|rfl|rfl|rfl|rfl
  ·exact absurd hn acM
  ·exact absurd hn acM
  ·exact absurd hn acM
  ·exact absurd hn acM
  ·injection (show some _=some o from ho) with ho;subst ho;injection (show some _=some t from hd) with hd;subst hd;injection (show some _=some d from hG) with hG;subst hG;exact aG (cs:=[int x.kind,ints x.syms,.sl (Rx.gA x.kids)]) (off:=0) J ja ca J (aah J)
  ·injection (show some _=some o from ho) with ho;subst ho;injection (show some _=some t from hd) with hd;subst hd;injection (show some _=some d from hG) with hG;subst hG;exact eu J Tryz.underlying85 ju J J J J aa
 ·intro o X ho e7 dH c6;have HE:35∈looks _ o→X.lookup 35=some (vvv):=fun h=>(c6 35 h).trans rfl
  have HF:38∈looks _ o→X.lookup 38=some (vvw (jM (l.take k))):=fun h=>(c6 38 h).trans rfl
  injection (show some _=some o from ho) with ho';obtain⟨s',g1,g2⟩:=tc (o:=o) (f:=rx) (l:=l.take k) (n:=48) (X:=X) (t:=39) (u:=35) (v:=38) (by rw[←ho'];rfl) (by rw[←ho'];rfl) rfl e7 Tryz.underlying85 ju (HE (by rw[←ho'];decide)) (HF (by rw[←ho'];decide)) (fun _=>rfl) (by rw[aai,aau];omega) (by rw[aai,aau];omega) (fun t' d h hne=>eT (by rfl) (dH t' d h) hne) rfl aa;exact⟨39,_,s',by rw[←ho'];rfl,rfl,g1,g2⟩
 refine bM (n:=2) acL ?_;refine aJ (i:=7) acL J J (step_append J J J J Tryz.underlying85 ju J J aa (cI J (bW (by rfl))) (by simp only[aar,aai,aau,aaw,aat,aam];omega) (by simp only[aar,aai,aau,aaw,aat,aam];omega)) ?_;refine xe 8 ?_;refine bf acL ?_;refine iS [6] [43,44,45] [39] ?_;refine wZ [0,5000] ?_;refine oS J (step_append J J J J Tryz.underlying85 ju J J aa (eW (f:=rx) (l:=l.drop k) J (fun _=>rfl)) (by simp only[aar,aai,aau,aaw,aat,aam];omega) (by simp only[aar,aai,aau,aaw,aat,aam];omega)) J ?_;refine ku 48 [(47,_)] [] aa J ⟨.inr ⟨_,_,rfl,rfl,rfl⟩,trivial⟩ trivial ?_;refine Gt [8004] ?_;rotate_left;refine wA [18] [0,3,5,6] [] ?_;refine kx (n:=48) (o2:=[(39,.arr 87 ((l.take k).map rx))]) 4 7 [(35,vvv),(36,vvw (jM l)),(37,vvw (int k)),(38,vvw (jM (l.take k))),(39,.own 39),(40,vvw (.agg [int x.kind,ints x.syms,.sl (Rx.gA x.kids)])),(41,vvw (.sl [(.agg [int x.kind,ints x.syms,.sl (Rx.gA x.kids)])])),(0,vvw (jM l)),(3,vvw (.pc [int (x).kind,ints (x).syms,.sl (Rx.gA (x).kids)] 0)),(5,vvw (int k)),(6,vvv)] mixed acL acL acL J acL (fun t d h=>h) J ?_ ?_ ?_ ?_ ?_
 ·intro i hi;rcases(by omega:i=0∨i=1∨i=2∨i=3∨i=4∨i=5∨i=6) with rfl|rfl|rfl|rfl|rfl|rfl|rfl<;>exact⟨_,_,rfl,rfl⟩
 ·intro i o t d hi hia ho hd hG hn;rcases(by omega:i=0∨i=1∨i=2∨i=3∨i=5∨i=6) with rfl|rfl|rfl|rfl|rfl|rfl
  ·injection (show some _=some o from ho) with ho;subst ho;injection (show some _=some t from hd) with hd;subst hd;injection (show some _=some d from hG) with hG;subst hG;exact cH J J
  ·injection (show some _=some o from ho) with ho;subst ho;injection (show some _=some t from hd) with hd;subst hd;injection (show some _=some d from hG) with hG;subst hG;exact cH J J
  ·injection (show some _=some o from ho) with ho;subst ho;injection (show some _=some t from hd) with hd;subst hd;injection (show some _=some d from hG) with hG;subst hG;exact cH J J
  ·injection (show some _=some o from ho) with ho;subst ho;injection (show some _=some t from hd) with hd;subst hd;injection (show some _=some d from hG) with hG;subst hG;exact fi (f:=rx) (l:=l) (j:=(k:Int)) J Tryz.underlying85 ca J J acK (fun _=>rfl)
  ·injection (show some _=some o from ho) with ho;subst ho;injection (show some _=some t from hd) with hd;subst hd;injection (show some _=some d from hG) with hG;subst hG;exact aG (cs:=[int x.kind,ints x.syms,.sl (Rx.gA x.kids)]) (off:=0) J ja ca J (aah J)
  ·injection (show some _=some o from ho) with ho;subst ho;injection (show some _=some t from hd) with hd;subst hd;injection (show some _=some d from hG) with hG;subst hG;exact eu J Tryz.underlying85 ju J J J J aa
 ·intro i o t d hi hia ho hd hG hn;rcases(by omega:i=0∨i=1∨i=2∨i=3∨i=5∨i=6) with rfl|rfl|rfl|rfl|rfl|rfl
  ·exact absurd hn acM
  ·exact absurd hn acM
  ·exact absurd hn acM
  ·exact absurd hn acM
  ·injection (show some _=some o from ho) with ho;subst ho;injection (show some _=some t from hd) with hd;subst hd;injection (show some _=some d from hG) with hG;subst hG;exact aG (cs:=[int x.kind,ints x.syms,.sl (Rx.gA x.kids)]) (off:=0) J ja ca J (aah J)
  ·injection (show some _=some o from ho) with ho;subst ho;injection (show some _=some t from hd) with hd;subst hd;injection (show some _=some d from hG) with hG;subst hG;exact eu J Tryz.underlying85 ju J J J J aa
 ·intro o X ho e7 dH c6;have HE:35∈looks _ o→X.lookup 35=some (vvv):=fun h=>(c6 35 h).trans rfl
  have HF:38∈looks _ o→X.lookup 38=some (vvw (jM (l.take k))):=fun h=>(c6 38 h).trans rfl
  injection (show some _=some o from ho) with ho';obtain⟨s',g1,g2⟩:=tc (o:=o) (f:=rx) (l:=l.take k) (n:=48) (X:=X) (t:=39) (u:=35) (v:=38) (by rw[←ho'];rfl) (by rw[←ho'];rfl) rfl e7 Tryz.underlying85 ju (HE (by rw[←ho'];decide)) (HF (by rw[←ho'];decide)) (fun _=>rfl) (by rw[aai,aau];omega) (by rw[aai,aau];omega) (fun t' d h hne=>eT (by rfl) (dH t' d h) hne) rfl aa;exact⟨39,_,s',by rw[←ho'];rfl,rfl,g1,g2⟩
 refine bM (n:=2) acL ?_;refine aJ (i:=7) acL J J (step_append J J J J Tryz.underlying85 ju J J aa (cI J (bW (by rfl))) (by simp only[aar,aai,aau,aaw,aat,aam];omega) (by simp only[aar,aai,aau,aaw,aat,aam];omega)) ?_;refine xe 8 ?_;refine bf acL ?_;refine iS [6] [43,44,45] [39] ?_;refine wZ [0,5000] ?_;refine oS J (step_append J J J J Tryz.underlying85 ju J J aa (eW (f:=rx) (l:=l.drop k) J (fun _=>rfl)) (by simp only[aar,aai,aau,aaw,aat,aam];omega) (by simp only[aar,aai,aau,aaw,aat,aam];omega)) J ?_;refine ku 48 [(47,_)] [] aa J ⟨.inr ⟨_,_,rfl,rfl,rfl⟩,trivial⟩ trivial ?_;refine Gt [8004] ?_;rotate_left;refine wS [2018,6002,7002] [0,3,5,26] [] ?_ ?_<;>intro h5';refine wA [6002,2] [0,3,5,26,30,31] [] ?_;refine oE J J J J J J (A9 (a:=l.getD k default) (b:=x) (by have:=hk k acK;omega) acK) ?_;refine wS [3003] [0,3,5,33] [] ?_ ?_<;>intro h6;refine wZ [8009] ?_;rotate_left;refine wA [9] [0,3,5,6] [] ?_;refine kx (n:=48) (o2:=[(39,.arr 87 ((l.take k).map rx))]) 4 7 [(35,vvv),(36,vvw (jM l)),(37,vvw (int k)),(38,vvw (jM (l.take k))),(39,.own 39),(40,vvw (.agg [int x.kind,ints x.syms,.sl (Rx.gA x.kids)])),(41,vvw (.sl [(.agg [int x.kind,ints x.syms,.sl (Rx.gA x.kids)])])),(0,vvw (jM l)),(3,vvw (.pc [int (x).kind,ints (x).syms,.sl (Rx.gA (x).kids)] 0)),(5,vvw (int k)),(6,vvv)] mixed acL acL acL J acL (fun t d h=>h) J ?_ ?_ ?_ ?_ ?_
 ·intro i hi;rcases(by omega:i=0∨i=1∨i=2∨i=3∨i=4∨i=5∨i=6) with rfl|rfl|rfl|rfl|rfl|rfl|rfl<;>exact⟨_,_,rfl,rfl⟩
 ·intro i o t d hi hia ho hd hG hn;rcases(by omega:i=0∨i=1∨i=2∨i=3∨i=5∨i=6) with rfl|rfl|rfl|rfl|rfl|rfl
  ·injection (show some _=some o from ho) with ho;subst ho;injection (show some _=some t from hd) with hd;subst hd;injection (show some _=some d from hG) with hG;subst hG;exact cH J J
  ·injection (show some _=some o from ho) with ho;subst ho;injection (show some _=some t from hd) with hd;subst hd;injection (show some _=some d from hG) with hG;subst hG;exact cH J J
  ·injection (show some _=some o from ho) with ho;subst ho;injection (show some _=some t from hd) with hd;subst hd;injection (show some _=some d from hG) with hG;subst hG;exact cH J J
  ·injection (show some _=some o from ho) with ho;subst ho;injection (show some _=some t from hd) with hd;subst hd;injection (show some _=some d from hG) with hG;subst hG;exact fi (f:=rx) (l:=l) (j:=(k:Int)) J Tryz.underlying85 ca J J acK (fun _=>rfl)
  ·injection (show some _=some o from ho) with ho;subst ho;injection (show some _=some t from hd) with hd;subst hd;injection (show some _=some d from hG) with hG;subst hG;exact aG (cs:=[int x.kind,ints x.syms,.sl (Rx.gA x.kids)]) (off:=0) J ja ca J (aah J)
  ·injection (show some _=some o from ho) with ho;subst ho;injection (show some _=some t from hd) with hd;subst hd;injection (show some _=some d from hG) with hG;subst hG;exact eu J Tryz.underlying85 ju J J J J aa
 ·intro i o t d hi hia ho hd hG hn;rcases(by omega:i=0∨i=1∨i=2∨i=3∨i=5∨i=6) with rfl|rfl|rfl|rfl|rfl|rfl
  ·exact absurd hn acM
  ·exact absurd hn acM
  ·exact absurd hn acM
  ·exact absurd hn acM
  ·injection (show some _=some o from ho) with ho;subst ho;injection (show some _=some t from hd) with hd;subst hd;injection (show some _=some d from hG) with hG;subst hG;exact aG (cs:=[int x.kind,ints x.syms,.sl (Rx.gA x.kids)]) (off:=0) J ja ca J (aah J)
  ·injection (show some _=some o from ho) with ho;subst ho;injection (show some _=some t from hd) with hd;subst hd;injection (show some _=some d from hG) with hG;subst hG;exact eu J Tryz.underlying85 ju J J J J aa
 ·intro o X ho e7 dH c6;have HE:35∈looks _ o→X.lookup 35=some (vvv):=fun h=>(c6 35 h).trans rfl
  have HF:38∈looks _ o→X.lookup 38=some (vvw (jM (l.take k))):=fun h=>(c6 38 h).trans rfl
  injection (show some _=some o from ho) with ho';obtain⟨s',g1,g2⟩:=tc (o:=o) (f:=rx) (l:=l.take k) (n:=48) (X:=X) (t:=39) (u:=35) (v:=38) (by rw[←ho'];rfl) (by rw[←ho'];rfl) rfl e7 Tryz.underlying85 ju (HE (by rw[←ho'];decide)) (HF (by rw[←ho'];decide)) (fun _=>rfl) (by rw[aai,aau];omega) (by rw[aai,aau];omega) (fun t' d h hne=>eT (by rfl) (dH t' d h) hne) rfl aa;exact⟨39,_,s',by rw[←ho'];rfl,rfl,g1,g2⟩
 refine bM (n:=2) acL ?_;refine aJ (i:=7) acL J J (step_append J J J J Tryz.underlying85 ju J J aa (cI J (bW (by rfl))) (by simp only[aar,aai,aau,aaw,aat,aam];omega) (by simp only[aar,aai,aau,aaw,aat,aam];omega)) ?_;refine xe 8 ?_;refine bf acL ?_;refine iS [6] [43,44,45] [39] ?_;refine wZ [0,5000] ?_;refine oS J (step_append J J J J Tryz.underlying85 ju J J aa (eW (f:=rx) (l:=l.drop k) J (fun _=>rfl)) (by simp only[aar,aai,aau,aaw,aat,aam];omega) (by simp only[aar,aai,aau,aaw,aat,aam];omega)) J ?_;refine ku 48 [(47,_)] [] aa J ⟨.inr ⟨_,_,rfl,rfl,rfl⟩,trivial⟩ trivial ?_;refine Gt [8004] ?_;rotate_left;refine wA [18] [0,3,5,6] [] ?_;refine kx (n:=48) (o2:=[(39,.arr 87 ((l.take k).map rx))]) 4 7 [(35,vvv),(36,vvw (jM l)),(37,vvw (int k)),(38,vvw (jM (l.take k))),(39,.own 39),(40,vvw (.agg [int x.kind,ints x.syms,.sl (Rx.gA x.kids)])),(41,vvw (.sl [(.agg [int x.kind,ints x.syms,.sl (Rx.gA x.kids)])])),(0,vvw (jM l)),(3,vvw (.pc [int (x).kind,ints (x).syms,.sl (Rx.gA (x).kids)] 0)),(5,vvw (int k)),(6,vvv)] mixed acL acL acL J acL (fun t d h=>h) J ?_ ?_ ?_ ?_ ?_
 ·intro i hi;rcases(by omega:i=0∨i=1∨i=2∨i=3∨i=4∨i=5∨i=6) with rfl|rfl|rfl|rfl|rfl|rfl|rfl<;>exact⟨_,_,rfl,rfl⟩
 ·intro i o t d hi hia ho hd hG hn;rcases(by omega:i=0∨i=1∨i=2∨i=3∨i=5∨i=6) with rfl|rfl|rfl|rfl|rfl|rfl
  ·injection (show some _=some o from ho) with ho;subst ho;injection (show some _=some t from hd) with hd;subst hd;injection (show some _=some d from hG) with hG;subst hG;exact cH J J
  ·injection (show some _=some o from ho) with ho;subst ho;injection (show some _=some t from hd) with hd;subst hd;injection (show some _=some d from hG) with hG;subst hG;exact cH J J
  ·injection (show some _=some o from ho) with ho;subst ho;injection (show some _=some t from hd) with hd;subst hd;injection (show some _=some d from hG) with hG;subst hG;exact cH J J
  ·injection (show some _=some o from ho) with ho;subst ho;injection (show some _=some t from hd) with hd;subst hd;injection (show some _=some d from hG) with hG;subst hG;exact fi (f:=rx) (l:=l) (j:=(k:Int)) J Tryz.underlying85 ca J J acK (fun _=>rfl)
  ·injection (show some _=some o from ho) with ho;subst ho;injection (show some _=some t from hd) with hd;subst hd;injection (show some _=some d from hG) with hG;subst hG;exact aG (cs:=[int x.kind,ints x.syms,.sl (Rx.gA x.kids)]) (off:=0) J ja ca J (aah J)
  ·injection (show some _=some o from ho) with ho;subst ho;injection (show some _=some t from hd) with hd;subst hd;injection (show some _=some d from hG) with hG;subst hG;exact eu J Tryz.underlying85 ju J J J J aa
 ·intro i o t d hi hia ho hd hG hn;rcases(by omega:i=0∨i=1∨i=2∨i=3∨i=5∨i=6) with rfl|rfl|rfl|rfl|rfl|rfl
  ·exact absurd hn acM
  ·exact absurd hn acM
  ·exact absurd hn acM
  ·exact absurd hn acM
  ·injection (show some _=some o from ho) with ho;subst ho;injection (show some _=some t from hd) with hd;subst hd;injection (show some _=some d from hG) with hG;subst hG;exact aG (cs:=[int x.kind,ints x.syms,.sl (Rx.gA x.kids)]) (off:=0) J ja ca J (aah J)
  ·injection (show some _=some o from ho) with ho;subst ho;injection (show some _=some t from hd) with hd;subst hd;injection (show some _=some d from hG) with hG;subst hG;exact eu J Tryz.underlying85 ju J J J J aa
 ·intro o X ho e7 dH c6;have HE:35∈looks _ o→X.lookup 35=some (vvv):=fun h=>(c6 35 h).trans rfl
  have HF:38∈looks _ o→X.lookup 38=some (vvw (jM (l.take k))):=fun h=>(c6 38 h).trans rfl
  injection (show some _=some o from ho) with ho';obtain⟨s',g1,g2⟩:=tc (o:=o) (f:=rx) (l:=l.take k) (n:=48) (X:=X) (t:=39) (u:=35) (v:=38) (by rw[←ho'];rfl) (by rw[←ho'];rfl) rfl e7 Tryz.underlying85 ju (HE (by rw[←ho'];decide)) (HF (by rw[←ho'];decide)) (fun _=>rfl) (by rw[aai,aau];omega) (by rw[aai,aau];omega) (fun t' d h hne=>eT (by rfl) (dH t' d h) hne) rfl aa;exact⟨39,_,s',by rw[←ho'];rfl,rfl,g1,g2⟩
 refine bM (n:=2) acL ?_;refine aJ (i:=7) acL J J (step_append J J J J Tryz.underlying85 ju J J aa (cI J (bW (by rfl))) (by simp only[aar,aai,aau,aaw,aat,aam];omega) (by simp only[aar,aai,aau,aaw,aat,aam];omega)) ?_;refine xe 8 ?_;refine bf acL ?_;refine iS [6] [43,44,45] [39] ?_;refine wZ [0,5000] ?_;refine oS J (step_append J J J J Tryz.underlying85 ju J J aa (eW (f:=rx) (l:=l.drop k) J (fun _=>rfl)) (by simp only[aar,aai,aau,aaw,aat,aam];omega) (by simp only[aar,aai,aau,aaw,aat,aam];omega)) J ?_;refine ku 48 [(47,_)] [] aa J ⟨.inr ⟨_,_,rfl,rfl,rfl⟩,trivial⟩ trivial ?_;refine Gt [8004] ?_;rotate_left
 all_goals
  first|(exfalso;omega)|(rw[Kf (i:=k) acK aq acK];first|done|rfl)|(rw[NS (i:=k) acK aq (fun _=>by omega) (fun _=>by omega)];show _=RV.p (.sl ((l.take k++[x]++l.drop k).map rx));rw[aas,aas];rfl)
theorem O4 {P:Program}{w0:Fr}{M0:Nat→Prop}{s:St}{o:Oper}{T e:TypeId}{x y:Operand}{id off:Nat}{f g:Nat→Bool}(ho:o.op=.store T x y)(hd:o.dst=none)(hnd:Nodup s.s=true)(hk:bY P T=some 1)
  (hx:s.ev x=some (.pbox id off))(hl:s.o.lookup id=some (.box e (ix f)))(hy:s.ev y=some (vvw (bool true)))(hle:off<64)(hg:rH (c5 id (ix f)) off [vvw (bool true)]=ix g)(aa:∀b,M0 b→b<w0.w.heap.size) :
  Step P w0 M0 o s (s.cC false id (.box e (ix g))):=by
 have:=aW (P:=P) (w0:=w0) (M0:=M0) (k:=1) ho hd hnd hk hx hl hy rfl (fun h=>by cases h) rfl (by rw[oY];exact Nat.ble_eq_true_of_le acK) aa;rw[show c3 (vvw (bool true))=[vvw (bool true)] from rfl,hg] at this;exact this
theorem Xj:zeroOf Tryz.prog 219=some (List.replicate 64 (Value.bool false)):=acL
theorem ZA:um Tryz.prog 91 Tryz.f91.ntmps 2 87 3 (Tryz.f91.body.getD .skip):=⟨Tryz.f91,Tryz.func91,rfl,rfl,rfl,acL,ja,ca⟩
theorem oj (hn:∀x∈l,Nf x)(hs:Rx.aB l≤274877906944):aU Tryz.prog 91 [jM l] (.p (rx (qm l))):=by
 have hl:=dh l;have hLs:=kD l;have hLl:=dh (aX l);have hz:∀j k,j<(aX l).length→k<((aX l).getD j default).syms.length→0≤((aX l).getD j default).syms.getD k default∧((aX l).getD j default).syms.getD k default<64:=fun j k hj hk=>by
   have h1:=(tq hn (aQ hj)).1;have h2:((aX l).getD j default).syms.getD k default∈((aX l).getD j default).syms:=by rw[dp hk];exact abp hk
   exact(jH.1 (h1.k2 (NT h1 h2)).2).2.2 _ h2
 have hsz:∀j,j<(aX l).length→((aX l).getD j default).size≤Rx.aB (aX l):=fun j hj=>gB (aQ hj)
 have hsy:∀j,((aX l).getD j default).syms.length<((aX l).getD j default).size:=fun j=>eA _
 have hro:∀j,Rx.aB (mw ((aX l).take j))≤Rx.aB (aX l):=fun j=>aaO (uU _) (gM _ _)
 have hsl:=uV (aX l) 64;have h2s:=yy (aX l);have h3s:=GS (aX l);have hm2:(Rx.mk 2 (fK (aX l) 64) []).size=1+(fK (aX l) 64).length:=by rw[eH,Rx.aB];rfl
 refine bk ZA (aah J) fun w0 M0 aa=>?_
 refine c4 [1007,9] [0,2,3,4] [2,3] ?_;refine lr (fun zl zo zm zs=>∃i:Nat,zm=l.length-i∧(i≤l.length)∧zs=eJ 128 [(0,vvw (jM l)),(2,.pbox 2 0),(3,.own 3),(4,vvw (int i))] zl [(2,.box 87 [vvw (.sc (.int .i64 0)),vvv,vvv]),(3,.arr 87 ((aX (l.take i)).map rx))] zo) ?_ ?_;exact⟨_,0,rfl,aan _,rfl⟩;rintro zm zs ⟨i,rfl,aY,rfl⟩;have hb2:=kD (l.take i);have hb3:=gM l i;have hb4:=dh (aX (l.take i));have hb5:=fun(h:i<l.length)=>gB (aQ h)
 have hb10:=ea (l.getD i default);refine wS [5,3003] [0,2,3,4,16] [2,3] ?_ ?_<;>intro h1;refine wS [9,3005] [0,2,3,4,24] [2,3] ?_ ?_<;>intro h2;refine wA [5,2] [0,2,4,25,30] [2,3] ?_;refine oS J (step_append J J J J Tryz.underlying85 ju J J aa (wY (l:=(l.getD i default).kids) J) (by first|(simp only[ll];omega)|omega) (by first|(simp only[ll];omega)|omega)) J ?_;refine wA [6,9002] [0,2,3,4] [2,3] ?_;rotate_left;refine wA [5,1,1000,6,9002] [0,2,3,4] [2,3] ?_;rotate_left;refine wA [7] [2,3] [2,3] ?_;refine aI 128 [(2,_),(3,_)] [(2,_)] aa J ⟨.inl J,.inr ⟨_,_,rfl,rfl,rfl⟩,trivial⟩ ⟨rfl,trivial⟩ ?_;rw[show l.take i=l from aaB acK];refine gz [1] [2,3] [2] ?_;refine oS J (cM J J J J J Xj J aa) J ?_;refine wA [4] [2,3,5] [2,5] ?_;refine oP J (au (hU J J) J) ?_;refine wA [19] [2,3,5,6,7,8,9] [2,5] ?_;refine lr (fun zl zo zm zs=>∃j:Nat,zm=(aX l).length-j∧(j≤(aX l).length)∧zs=eJ 128 [(2,.pbox 2 0),(3,vvw (jM (aX l))),(5,.pbox 5 0),(6,vvw (jM (mw ((aX l).take j)))),(7,vvw (bool (rD ((aX l).take j)))),(8,vvw (bool (my ((aX l).take j)))),(9,vvw (int j))] zl [(2,.box 87 [vvw (.sc (.int .i64 0)),vvv,vvv]),(5,.box 219 (ix (Pr ((aX l).take j))))] zo) ?_ ?_;exact⟨_,0,rfl,aan _,rfl⟩;rintro zm zs ⟨j,rfl,fu,rfl⟩;refine wS [5,3003] [2,3,5,6,7,8,9,42] [2,5] ?_ ?_<;>intro h3;refine wA [12] [2,3,5,6,7,8,9,10] [2,5] ?_;refine lp (fun zm zs=>∃k:Nat,zm=((aX l).getD j default).syms.length-k∧(k≤((aX l).getD j default).syms.length)∧zs=⟨128,[(2,.pbox 2 0),(3,vvw (jM (aX l))),(5,.pbox 5 0),(6,vvw (jM (mw ((aX l).take j)))),(7,vvw (bool (rD ((aX l).take j)))),(8,vvw (bool (my ((aX l).take j)))),(9,vvw (int j)),(10,vvw (int k))],[(2,.box 87 [vvw (.sc (.int .i64 0)),vvv,vvv]),(5,.box 219 (ix (py (aX l) j k)))]⟩) ?_ ?_;refine⟨_,0,rfl,aan _,?_⟩;rw[Qp];rfl;rintro zm zs ⟨k,rfl,A8,rfl⟩;have hk1:=hsz j acK;have hk2:=hsy j;refine wS [6,2,3003] [2,3,5,6,7,8,9,10,52] [2,5] ?_ ?_<;>intro h4;refine wA [8,3,1] [2,3,5,6,7,8,9,10,62] [2,5] ?_;refine oP J (pR (n:=64) J Tryz.underlying219 kc J J J (hz j k acK acK)) ?_;refine oS J (O4 (f:=py (aX l) j k) (g:=py (aX l) j (k+1)) J J J kc J J J (by have:=hz j k acK acK;omega) (EH 5 acK (hz j k acK acK)) aa) J ?_;refine wA [5,9002] [2,3,5,6,7,8,9,10] [2,5] ?_;exact⟨_,⟨k+1,rfl,acK,rfl⟩,acK⟩;refine wS [10,3005] [2,3,5,6,7,8,9,69] [2,5] ?_ ?_<;>intro h5;refine wA [8,9002] [2,3,5,6,7,8,9] [2,5] ?_;rotate_left;refine wS [5,3005] [2,3,5,6,7,8,9,75] [2,5] ?_ ?_<;>intro h6;refine wA [6,1] [2,3,5,7,8,9,76,80] [2,5] ?_;refine oN J J J J J (vj (l:=mw ((aX l).take j)) (x:=((aX l).getD j default)) (by have:=hro j;omega) (by have:=hsz j acK;omega)) ?_;refine wS [4006] [2,3,5,6,7,9,83] [2,5] ?_ ?_<;>intro h7';refine wA [12,9002] [2,3,5,6,7,8,9] [2,5] ?_;rotate_left;refine wA [2,1] [2,3,5,6,7,9,83,87] [2,5] ?_;refine oC J J J J (Ku _ ((aX l).getD j default) (aak _) (by have:=hsz j acK;omega)) ?_;refine wA [7,9002] [2,3,5,6,7,8,9] [2,5] ?_;rotate_left;refine wA [6,9002] [2,3,5,6,7,8,9] [2,5] ?_;rotate_left;refine wA [7] [2,5,6,7,8] [2,5] ?_;rw[show(aX l).take j=(aX l) from aaB acK];refine wA [1001,9] [2,5,6,7,8,11,12] [2,5,11] ?_;refine lr (fun zl zo zm zs=>∃v:Nat,zm=64-v∧(v≤64)∧zs=eJ 128 [(2,.pbox 2 0),(5,.pbox 5 0),(6,vvw (jM (mw (aX l)))),(7,vvw (bool (rD (aX l)))),(8,vvw (bool (my (aX l)))),(11,.own 11),(12,vvw (int v))] zl [(2,.box 87 [vvw (.sc (.int .i64 0)),vvv,vvv]),(5,.box 219 (ix (Pr (aX l)))),(11,.arr 3 ((fK (aX l) v).map int))] zo) ?_ ?_;exact⟨_,0,rfl,aan _,rfl⟩;rintro zm zs ⟨v,rfl,IA,rfl⟩;have hv1:=uV (aX l) v;refine wS [3007] [2,5,6,7,8,11,12,91] [2,5,11] ?_ ?_<;>intro h8;refine wA [8] [2,5,6,7,8,11,12,94] [2,5,11] ?_;refine oP J (pR (n:=64) J Tryz.underlying219 kc J J J acK) ?_;refine oP J (ae J Sc J J (Ki (f:=Pr (aX l)) (v:=v) acK)) ?_;refine wS [3002] [2,5,6,7,8,11,12,96] [2,5,11] ?_ ?_<;>intro h9;refine wA [4,1000,6,9002] [2,5,6,7,8,11,12] [2,5,11] ?_;rotate_left;refine wA [6,9002] [2,5,6,7,8,11,12] [2,5,11] ?_;rotate_left;refine wA [6] [2,6,7,8,11] [2,11] ?_;refine ct (fun zs=>zs=⟨128,[(2,.pbox 2 0),(6,vvw (jM (mz (aX l)))),(7,vvw (bool (rD (aX l)))),(8,vvw (bool (my (aX l))))],[(2,.box 87 [vvw (.sc (.int .i64 0)),vvv,vvv])]⟩) ?_ ?_;refine wA [1] [2,6,7,8,11] [2,11] ?_;refine aI 128 [(2,_),(6,_),(7,_),(8,_),(11,_)] [(2,_)] aa J ⟨.inl J,.inl J,.inl J,.inl J,.inr ⟨_,_,rfl,rfl,rfl⟩,trivial⟩ ⟨rfl,trivial⟩ ?_;have ev:v=64:=acK;subst ev;refine U0 [2,3003] [2,6,7,8,11,103] [2] ?_ ?_<;>intro h10;refine wA [4] [2,7,8,104,105] [2] ?_;refine oN J J J J J (mC (fK (aX l) 64)) ?_;refine oN J J J J J (vj (l:=mw (aX l)) (x:=.mk 2 (fK (aX l) 64) []) (by have:=uU (aX l);omega) acK) ?_;refine wA [10002] [2,6,7,8] [2] ?_;rotate_left;refine wA [10002] [2,6,7,8] [2] ?_;rotate_left;rintro zs ⟨rfl⟩;refine ct (fun zs=>zs=⟨128,[(2,.pbox 2 0),(6,vvw (jM (mZ (aX l))))],[(2,.box 87 [vvw (.sc (.int .i64 0)),vvv,vvv])]⟩) ?_ ?_;refine wS [4004] [2,6,8,109] [2] ?_ ?_<;>intro h11';refine wS [3005] [2,6,112] [2] ?_ ?_<;>intro h12;refine wA [3] [2,113] [2] ?_;refine oP J (au (aT J GX o3 J J J) J) ?_;refine oN J J J J J (vj (l:=mz (aX l)) (x:=eG) acK acM) ?_;refine wA [10002] [2,6] [2] ?_;rotate_left;refine wA [10002] [2,6] [2] ?_;rotate_left;refine wA [10007] [2,6] [2] ?_;rotate_left;rintro zs ⟨rfl⟩;refine wS [4,3003] [2,6,118] [2] ?_ ?_<;>intro h13;refine wA [3] [2] [2] ?_;refine oP J (au (aT J GX o3 J J J) J) ?_;refine wZ [5] ?_;refine aA J ?_;rotate_left;refine wS [7,3003] [2,6,122] [2] ?_ ?_<;>intro h14;refine wZ [4,6] ?_;refine aA J ?_;rotate_left;refine wA [6] [2,126] [2] ?_;refine oN J J J J J (CD 4 (mZ (aX l))) ?_;refine wZ [4] ?_;refine aA J ?_;rotate_left
 all_goals first
  | (
    exact⟨_,⟨i+1,rfl,acK,by rw[nO acK];first|(rw[gQ acK,aas];rfl)|(rw[jr acK,aas];rfl)⟩,acK⟩;done)
  | (
    exact⟨_,⟨j+1,rfl,acK,by rw[NW (j:=j) (k:=k) acK acK];first|(rw[TH acK acK,TJ acK acK,TN acK acK];rfl)|(rw[TI acK acK acK,TM acK acK acK,GU acK acK];rfl)|(rw[NV acK acK,TK acK acK acN,GU acK acK];rfl)|(rw[NV acK acK,TL acK acK acN,GU acK acK];rfl)⟩,acK⟩;done)
  | (
    exact⟨_,⟨v+1,rfl,acK,by first|(rw[Qq acN,aas];rfl)|(rw[Qr acN];rfl)⟩,acK⟩;done)
  | (
    first|(rw[Qs acK];first|done|rfl)|(rw[Qt acK];first|done|rfl);done)
  | (
    first|(rw[Qu acN acN];first|done|rfl)|(rw[Qv acN];first|done|rfl)|(rw[Qw acN];first|done|rfl);done)
  | (
    first
      | (rw[show qm l=_ from Gy (k:=mZ (aX l)) acK];first|done|rfl)
      | (rw[show qm l=_ from Ca (k:=mZ (aX l)) acK];first|done|rfl)
      | (rw[show qm l=_ from x5 (k:=mZ (aX l)) acK acK];first|done|rfl);done)
theorem ZB:um Tryz.prog 64 Tryz.f64.ntmps 2 87 3 (Tryz.f64.body.getD .skip):=⟨Tryz.f64,Tryz.func64,rfl,rfl,rfl,acL,ja,ca⟩
theorem zi {x:Rx}(hn:Nf x)(hs:x.size≤274877906944):aU Tryz.prog 64 [rx x] (.p (rx (rQ x))):=by
 have hk:=ea x;have he:=size_eq x;have hf:=oZ NZ x.kids;have hfn:∀y∈x.kids.filter NZ,y∈x.kids:=fun y hy=>(aa9.1 hy).1
 have hkn:∀y∈x.kids.filter NZ,Nf y:=fun y hy=>Nf.kids hn (hfn y hy)
 rw[ft x];refine bk ZB (aah J) fun w0 M0 aa=>?_
 refine pW [1002,4010] [1,2,8] [1,2] ?_ ?_<;>intro h1';refine wZ [15] ?_;refine aA J ?_;rotate_left;refine wS [3006] [1,2,12] [1,2] ?_ ?_<;>intro h2;refine wZ [9] ?_;refine aA J ?_;rotate_left;refine wS [3011] [1,2,16] [1,2] ?_ ?_<;>intro h3;refine wZ [9] ?_;refine aA J ?_;rotate_left;refine wA [3] [1,2] [1,2] ?_;refine ct (fun zs=>zs=⟨48,[(1,.pbox 1 0),(2,.pbox 2 0)],[(1,.box 87 [vvw (int ((sw x)).kind),vvw (ints ((sw x)).syms),vvw (.sl (Rx.gA ((sw x)).kids))]),(2,.box 87 [vvw (.sc (.int .i64 0)),vvv,vvv])]⟩) ?_ ?_;refine wS [3007] [1,2,20] [1,2] ?_ ?_<;>intro h4;refine wA [1003,9] [1,2,3,4] [1,2,3] ?_;refine lr (fun zl zo zm zs=>∃i:Nat,zm=x.kids.length-i∧(i≤x.kids.length)∧zs=eJ 48 [(3,.own 3),(4,vvw (int i))] zl [(1,.box 87 [vvw (int (x).kind),vvw (ints (x).syms),vvw (jM (x).kids)]),(3,.arr 87 (((x.kids.take i).filter NZ).map rx))] zo) ?_ ?_;exact⟨_,0,rfl,aan _,rfl⟩;rintro zm zs ⟨i,rfl,aY,rfl⟩;have hb1:=oZ NZ (x.kids.take i);have hb2:=gM x.kids i;have hb3:=dh ((x.kids.take i).filter NZ);refine wS [6,3003] [1,2,3,4,25] [1,2,3] ?_ ?_<;>intro h5;refine wS [10,3005] [1,2,3,4,34] [1,2,3] ?_ ?_<;>intro h6;refine wA [6,1,1000,6,9002] [1,2,3,4] [1,2,3] ?_;rotate_left;refine wA [6,9002] [1,2,3,4] [1,2,3] ?_;rotate_left;refine wA [6] [1,2,3] [1,2,3] ?_;refine aI 48 [(1,_),(2,_),(3,_)] [(1,_),(2,_)] aa J ⟨.inl J,.inl J,.inr ⟨_,_,rfl,rfl,rfl⟩,trivial⟩ ⟨rfl,rfl,trivial⟩ ?_;refine gz [2] [1,2,43] [1,2] ?_;refine oN J J J J J (oj (l:=(x.kids.take i).filter NZ) (by rw[show x.kids.take i=x.kids from aaB acK];exact hkn) (by have:=oZ NZ (x.kids.take i);have:=gM x.kids i;omega)) ?_;refine wA [10002] [1,2] [1,2] ?_;rotate_left;refine wA [10002] [1,2] [1,2] ?_;rotate_left;rintro zs ⟨rfl⟩;refine wZ [3,5000] ?_;refine oN J J J J J (CD 5 [sw x]) ?_;refine wZ [4] ?_;refine aA J ?_;rotate_left
 all_goals first
  | (
    first|(rw[Qx acK];first|done|rfl)|(rw[Qy acK acK,ft];first|done|rfl)|(rw[Qz acK acK];first|done|rfl);done)
  | (
    exact⟨_,⟨i+1,rfl,acK,by first|(rw[TO acK (Vd acK),aas];rfl)|(rw[TP acK (Ve acK)];rfl)⟩,acK⟩;done)
  | (
    first|(rw[NX acK,show x.kids.filter (fun y=>!decide (y.kind=1))=(x.kids.take i).filter NZ by rw[show x.kids.take i=x.kids from aaB acK]];first|done|rfl)|(rw[NY acK,xQ];first|done|rfl);done)
theorem ZC:um Tryz.prog 94 Tryz.f94.ntmps 4 87 3 (Tryz.f94.body.getD .skip):=⟨Tryz.f94,Tryz.func94,rfl,rfl,rfl,acL,ja,ca⟩
theorem C5 (t:Bool):∀(m:Nat)(r:Rx),r.size≤m→m≤137438953472→aR r=true→aU Tryz.prog 94 [rx r,bool t] (.p (rx (aL t r))):=by
 intro m
 induction m with
 | zero=>intro r hr;have:=size_pos r;omega
 | succ m ih =>
 intro r hr hm hv;have hk:=ea r;have he:=size_eq r;have hns:=Kj t r;have hnl:=Iu t r;have hvk:=im hv;rw[ft r];refine bk ZC (aah J) fun w0 M0 aa=>?_
 refine c4 [2,1005,9] [1,2,4,5,6] [4,5] ?_;refine lr (fun zl zo zm zs=>∃i:Nat,zm=r.kids.length-i∧(i≤r.kids.length)∧zs=eJ 56 [(5,.own 5),(6,vvw (int i))] zl [(4,.box 87 [vvw (.sc (.int .i64 0)),vvv,vvv]),(5,.arr 87 (((vN t r).take i).map rx))] zo) ?_ ?_;exact⟨_,0,rfl,aan _,rfl⟩;rintro zm zs ⟨i,rfl,aY,rfl⟩;refine wS [6,3003] [1,2,4,5,6,12] [4,5] ?_ ?_<;>intro h1;refine wA [11] [1,2,4,5,6,7] [4,5] ?_;refine ct (fun zs=>∃k:Nat,(k<r.kids.length)∧((vN t r).getD i default=aL t (r.kids.getD k default))∧zs=⟨56,[(1,vvw (bool t)),(2,vvw (wk r)),(4,.pbox 4 0),(5,.own 5),(6,vvw (int i)),(7,vvw (int k))],[(4,.box 87 [vvw (.sc (.int .i64 0)),vvv,vvv]),(5,.arr 87 (((vN t r).take i).map rx))]⟩) ?_ ?_;refine wS [4004] [1,2,4,5,6,7,17] [4,5] ?_ ?_<;>intro h2';refine wS [3006] [1,2,4,5,6,7,21] [4,5] ?_ ?_<;>intro h3;refine wA [4,0,1,10002] [1,2,4,5,6,7] [4,5] ?_;rotate_left;refine wA [10002] [1,2,4,5,6,7] [4,5] ?_;rotate_left;refine wA [10008] [1,2,4,5,6,7] [4,5] ?_;rotate_left;rintro zs ⟨k,vP,Xk,rfl⟩;refine wA [5,2] [1,2,4,6,28,33,34] [4,5] ?_;refine oN J J J J J (ih (r.kids.getD k default) (abf (aaT (ij acK) hr)) acK (hvk _ (aQ acK))) ?_;refine wA [0,1000,6,9002] [1,2,4,5,6] [4,5] ?_;exact⟨_,⟨i+1,rfl,acK,by rw[bD (l:=vN t r) acK,aas,Xk];rfl⟩,acK⟩;refine wA [8] [2,4,5] [4,5] ?_;refine aI 56 [(2,_),(4,_),(5,_)] [(4,_)] aa J ⟨.inl J,.inl J,.inr ⟨_,_,rfl,rfl,rfl⟩,trivial⟩ ⟨rfl,trivial⟩ ?_;rw[show(vN t r).take i=vN t r from aaB acK];refine U0 [3006] [2,4,5,40] [4] ?_ ?_<;>intro h4;refine wA [4] [4,41] [4] ?_;refine oN J J J J J (rl (l:=vN t r) acK) ?_;refine wZ [5] ?_;refine aA J ?_;rotate_left;refine wS [3011] [2,4,5,45] [4] ?_ ?_<;>intro h5;refine wA [4] [4,46] [4] ?_;refine oN J J J J J (oj (l:=vN t r) (Cv hv) acK) ?_;refine wZ [5] ?_;refine aA J ?_;rotate_left;refine wS [3011] [2,4,5,50] [4] ?_ ?_<;>intro h6;refine wA [4] [4,51] [4] ?_;refine oP J (dS J Tryz.underlying85 ca J J (by have:=(lL hv acK).2;omega) (fun _=>rfl)) ?_;refine wA [1] [4,53] [4] ?_;refine oN J J J J J (zi (x:=(vN t r).getD 0 default) (Cv hv _ (aQ (by have:=(lL hv acK).2;omega))) (by have:=gB (aQ (l:=vN t r) (i:=0) (by have:=(lL hv acK).2;omega));omega)) ?_;refine wZ [5] ?_;refine aA J ?_;rotate_left;refine wZ [10] ?_;refine aA J ?_;rotate_left
 all_goals first
  | (
    first|exact⟨i,acK,Vg (by simp_all) acK,rfl⟩|exact⟨r.kids.length-1-i,acK,Vf acN acK acK acK,by rw[show((r.kids.length-1-i:Nat):Int)=(r.kids.length:Int)-1-i by omega];first|done|rfl⟩;done)
  | (
    first|(rw[Yd acK];first|done|rfl)|(rw[Ye hv acK];first|done|rfl)|(rw[Yf hv acK];first|done|rfl)|(rw[Yg hv acK acK acK,ft];first|done|rfl);done)
theorem ZD:um Tryz.prog 67 Tryz.f67.ntmps 2 87 3 (Tryz.f67.body.getD .skip):=⟨Tryz.f67,Tryz.func67,rfl,rfl,rfl,acL,ja,ca⟩
theorem gq {r:Rx}(h:r.size≤137438953472):aU Tryz.prog 67 [rx r] (.p (rx (dv r))):=by
 refine bk ZD (aah J) fun w0 M0 aa=>?_
 refine c4 [2,7] [1,2,3] [2] ?_;refine oC J J J J (lb _ r (aak _) acK) ?_;refine wS [3003] [1,2,5] [2] ?_ ?_<;>intro h1;refine wZ [9] ?_;refine aA J ?_;rotate_left;refine wA [6] [2,7] [2] ?_;refine oN J J J J J (C5 false _ r (aak _) h acN) ?_;refine wZ [4] ?_;refine aA J ?_;rotate_left
 all_goals
  first|(rw[show dv r=dI from if_neg (by simp_all)];first|done|rfl)|(rw[show dv r=aL false r from if_pos acN];first|done|rfl)
end Go.Proofs.YtlapahnodhmcpaaGreat
