/-
  Part of the proof.
-/
import Derived.Test.YtlapahnodhmcpaaGreatJ0
import Derived.Test.YtlapahnodhmcpaaGreatJ16
import Derived.Test.YtlapahnodhmcpaaGreatJ37
import Derived.Test.YtlapahnodhmcpaaGreatJ34
import Derived.Test.YtlapahnodhmcpaaGreatJ23
import Derived.Test.YtlapahnodhmcpaaGreatJ6
set_option linter.unusedVariables false
set_option linter.unusedSectionVars false
set_option linter.unusedSimpArgs false
set_option maxRecDepth 100000
set_option maxHeartbeats 40000000
namespace Go.Wf
open Go.Am Go.Wb Go.Wc
def iR (l:List Int):List cK:=if kN l 0 3=1 then ar (l.drop 1) else aS
def gG (A:Nat)(l:List Int):aC:=wa A (l.drop 20)
def mG (l:List Int)(i:Nat):List Int:=l.drop (90+7*i)
def mJ (A:Nat)(l:List Int)(i:Nat):cy:=⟨lC A (((mG l i).drop 2).take (1+kN (mG l i) 1 4).toNat),((gG A l).classes.getD (kN (mG l i) 0 (gG A l).classes.length).toNat default).name⟩
def fp (A:Nat)(l:List Int):Nat→List cy
 | 0=>[]
 | i+1=>if(fp A l i).length<5∧cW (gG A l) (mJ A l i).class_ (mJ A l i).lemma_=0 then fp A l i++[mJ A l i] else fp A l i
variable {A:Nat} {l:List Int}
variable{i:Nat}
theorem FP (h:(fp A l i).length<5)(h2:cW (gG A l) (mJ A l i).class_ (mJ A l i).lemma_=0):fp A l (i+1)=fp A l i++[mJ A l i]:=if_pos ⟨h,h2⟩
theorem Ja (h2:¬cW (gG A l) (mJ A l i).class_ (mJ A l i).lemma_=0):fp A l (i+1)=fp A l i:=if_neg fun q=>h2 q.2
theorem uf:∀ i,(fp A l i).length≤5
 | 0=>aan _
 | i + 1 => by
   have:=uf i;unfold fp;split
   · next h=>rw[aar];show _+1≤5;omega
   · exact this
theorem vo {i:Nat}(h:5≤(fp A l i).length):∀j,fp A l (i+j)=fp A l i
 | 0=>rfl
 | j + 1 => by
   have ih:=vo h j;refine(if_neg (fun q=>?_)).trans ih;have h5:(fp A l (i+j)).length<5:=q.1;rw[ih] at h5;omega
theorem w9:∀ {i:Nat}{x:cy},x∈fp A l i→cW (gG A l) x.class_ x.lemma_=0∧x.lemma_.length≤12
 | 0,x,h=>by cases h
 | i + 1, x, h => by
   unfold fp at h;split at h
   · next q =>
     rcases aaU.1 h with h|h
     · exact w9 h
     · rw [aay.1 h]
       refine⟨q.2,?_⟩;show(lC A _).length≤12;unfold lC;rw[aai,aau];omega
   · exact w9 h
theorem FQ :(mJ A l i).lemma_.length≤12:=by show(lC A _).length≤12;unfold lC;rw[aai,aau];omega
theorem pn (l:List Int):0<(iR l).length∧(iR l).length≤10:=by
 unfold iR;split
 ·have:=tB (l.drop 1);omega
 ·exact⟨by decide,by decide⟩
end Go.Wf
namespace Go.Proofs.YtlapahnodhmcpaaGreat
open Go.Am Go.Wb Go.Wc Go.Wf Go.We
theorem Xl:PN Tryz.prog 10 Tryz.f10.ntmps 2 3 29 4 4 (Tryz.f10.body.getD .skip):=⟨Tryz.f10,Tryz.func10,rfl,rfl,rfl,acL,lO,jN⟩
theorem z6 {l:List Int}(hl:l.length≤9223372036854775807)(h64:fx l)(h:kN l 0 3=1):aU Tryz.prog 10 [ints l] (.p (.tup [af (ar (l.drop 1)),cV (gG (ar (l.drop 1)).length l),.sl ((fp (ar (l.drop 1)).length l 12).map cS)])):=by
 have hA:=tB (l.drop 1);have hcl:=vn (ar (l.drop 1)).length (l.drop 20);have hgs:pF (gG (ar (l.drop 1)).length l):=ue acK _;refine px Xl (aah J) fun w0 M0 aa=>?_
 refine c4 [9] [0,3] [3] ?_;refine oC J J J J (zh) ?_;refine wA [7] [0,3,5,15] [3] ?_;refine oC J J J J (eI h64 acM) ?_;refine oP J (bj (b':=true) (jO J J J) (decide_eq_true h)) ?_;refine wA [5] [0,3,18] [3] ?_;refine oN J J J J J (jK (n:=1) hl acK) ?_;refine oP J (bg J J J ((ak.weaken (zZ (l:=l.drop 1) (by rw[aaw];omega) (fx.drop h64 1)))) aa) ?_;refine wA [7] [0,3,5,21,22] [3] ?_;refine oN J J J J J (jK (n:=20) hl acK) ?_;refine oN J J J J J (pk (a:=(ar (l.drop 1))) (l:=l.drop 20) acK (by rw[aaw];omega) (fx.drop h64 20)) ?_;refine wA [5] [0,3,5,6] [3,6] ?_;refine aI 83 [(0,_),(3,_),(5,_),(6,_)] [(3,_)] aa J ⟨.inl J,.inl J,.inl J,.inr ⟨_,_,rfl,rfl,rfl⟩,trivial⟩ ⟨rfl,trivial⟩ ?_;refine gz [1001,9] [0,3,5,6,7,8] [3,7] ?_;have hcl:0<(gG (ar (l.drop 1)).length l).classes.length∧(gG (ar (l.drop 1)).length l).classes.length≤3:=hcl;refine lr (fun zl zo zm zs=>∃i:Nat,zm=12-i∧(i≤12)∧zs=eJ 83 [(8,vvw (int i))] zl [(3,.box 29 [vvv,vvv,vvv,vvv]),(7,.arr 72 ((fp (ar (l.drop 1)).length l i).map cS))] zo) ?_ ?_;exact⟨_,0,rfl,acK,rfl⟩;rintro zm zs ⟨i,rfl,aY,rfl⟩;have hll:=uf (A:=(ar (l.drop 1)).length) (l:=l) i;refine wS [4006] [0,3,5,6,7,8,27] [3,7] ?_ ?_<;>intro h1';refine wS [1,4003] [0,3,5,6,7,8,32] [3,7] ?_ ?_<;>intro h2';refine wS [2,3004] [0,3,5,6,7,8,37] [3,7] ?_ ?_<;>intro h3;refine wZ [9,5000] ?_;refine oP J (du (a':=((90+7*i:Nat):Int)) (dP J J J acK) acK) ?_;refine wA [0] [0,3,5,6,7,8,40,43] [3,7] ?_;refine oN J J J J J (jK (n:=90+7*i) hl acK) ?_;refine wA [4] [0,3,5,6,7,8,9] [3,7] ?_;have hat0:=js (l:=(mG l i)) (i:=0) (most:=((gG (ar (l.drop 1)).length l).classes.length:Int)) acK;have hat1:=js (l:=(mG l i)) (i:=1) (most:=4) acM;refine wA [2] [0,3,5,6,7,8,9,45] [3,7] ?_;refine oC J J J J (eI (l:=(mG l i)) (i:=1) (fx.drop h64 _) acM) ?_;refine wA [0,4] [0,3,5,6,7,8,9,10] [3,7] ?_;refine dC [17,18] [[(3,.box 29 [vvv,vvv,vvv,vvv]),(7,.arr 72 ((fp (ar (l.drop 1)).length l i).map cS))],[(3,.box 29 [vvv,vvv,vvv,vvv]),(7,.arr 72 ((fp (ar (l.drop 1)).length l i).map cS)),(11,.box 72 [vvv,vvw (.sc (.string ⟨#[]⟩))])],[(3,.box 29 [vvv,vvv,vvv,vvv]),(7,.arr 72 ((fp (ar (l.drop 1)).length l i).map cS)),(11,.box 72 [vvw (ints (mJ (ar (l.drop 1)).length l i).lemma_),vvw (ah (mJ (ar (l.drop 1)).length l i).class_)])]] 19 [] [(48,vvw (.pc (qp (gG (ar (l.drop 1)).length l)) 2)),(49,vvw (.sl ((gG (ar (l.drop 1)).length l).classes.map bL))),(50,vvw (ints (mG l i))),(51,vvw (.pc (qp (gG (ar (l.drop 1)).length l)) 2)),(52,vvw (.sl ((gG (ar (l.drop 1)).length l).classes.map bL))),(53,vvw (int (gG (ar (l.drop 1)).length l).classes.length)),(54,vvw (int (kN (mG l i) 0 (gG (ar (l.drop 1)).length l).classes.length))),(55,vvw (.pc (o6 ((gG (ar (l.drop 1)).length l).classes.getD (kN (mG l i) 0 (gG (ar (l.drop 1)).length l).classes.length).toNat default)) 0)),(56,vvw (.pc (o6 ((gG (ar (l.drop 1)).length l).classes.getD (kN (mG l i) 0 (gG (ar (l.drop 1)).length l).classes.length).toNat default)) 0)),(57,vvw (ah (mJ (ar (l.drop 1)).length l i).class_)),(58,vvw (af (ar (l.drop 1)))),(59,vvw (ints (mG l i))),(60,vvw (ints ((mG l i).drop 2))),(61,vvw (int (1+kN (mG l i) 1 4))),(62,vvw (ints (((mG l i).drop 2).take (1+kN (mG l i) 1 4).toNat))),(63,vvw (ints (mJ (ar (l.drop 1)).length l i).lemma_)),(64,vvw (cS (mJ (ar (l.drop 1)).length l i))),(11,.pbox 11 0),(0,vvw (ints l)),(3,.pbox 3 0),(5,vvw (af (ar (l.drop 1)))),(6,vvw (kn (gG (ar (l.drop 1)).length l))),(7,.own 7),(8,vvw (int i)),(9,vvw (ints (mG l i))),(10,vvw (int (1+kN (mG l i) 1 4)))] (ai bS (ai bS (ai bS (ai bS (ai bS (ai bS (ai (fun _=>(bg J J J (eI (l:=(mG l i)) (i:=0) (fx.drop h64 _) acK) aa)) (ai (fun _=>(gF (f:=bL) (l:=(gG (ar (l.drop 1)).length l).classes) (i:=(kN (mG l i) 0 (gG (ar (l.drop 1)).length l).classes.length).toNat) (z:=(gG (ar (l.drop 1)).length l).classes.getD (kN (mG l i) 0 (gG (ar (l.drop 1)).length l).classes.length).toNat default) J J Tryz.underlying26 Cz J J acK (fun _=>rfl))) (ai bS (ai bS (ai bS (ai bS (ai (fun _=>(bC J J J J (jK (l:=(mG l i)) (n:=2) (by unfold mG;rw[aaw];omega) acK) aa)) (ai bS (ai (fun _=>(bg J J J ((ak.weaken (oi (l:=(mG l i).drop 2) (n:=(1+kN (mG l i) 1 4)) (by unfold mG;rw[aaw,aaw];omega) acK))) aa)) (ai (fun _=>(bg J J J ((ak.weaken (gn (a:=(ar (l.drop 1))) (l:=((mG l i).drop 2).take (1+kN (mG l i) 1 4).toNat) (fx.take (fx.drop (fx.drop h64 _) _) _) (by rw[aau];omega) acK))) aa)) (ai bS trivial))))))))))))))))) (ai (fun X e7 dH c6=>gh (t:=11) J J J J e7 TS J J (fun t' z h hne=>eT (by rfl) (dH t' z h) hne) J aa) (ai (fun X e7 dH c6=>b8 J (b7 (u:=11) (v:=64) (id:=11) J J e7 Vo ((c6 11 acM).trans J) J ((c6 64 acM).trans J) J acM J J (fun t' z h=>cD (by rfl) (dH t' z h)) J aa)) (trivial))) ?_;refine bM (n:=0) acL ?_;refine bf acL ?_;refine iS [3] [0,3,5,6,7,8,11] [3,7,11] ?_;refine oP J (au (aG J lO jN J (aah J)) J) ?_;refine wA [4] [0,3,5,6,7,8,11,66,68,70] [3,7,11] ?_;refine oN J J J J J (ph (x:=(mJ (ar (l.drop 1)).length l i)) hgs (by have:(mJ (ar (l.drop 1)).length l i).lemma_.length≤12:=FQ;omega)) ?_;refine wS [3013] [0,3,5,6,7,8,11,75] [3,7,11] ?_ ?_<;>intro h4;refine wZ [4,5000] ?_;refine oS J (step_append J J J J Tryz.underlying30 EJ J J aa (cI J (bW (by rfl))) (by simp only[aai,aaZ];omega) (by simp only[aai,aaZ];omega)) J ?_;refine wA [6,9002] [0,3,5,6,7,8] [3,7] ?_;rotate_left;refine wA [6,9002] [0,3,5,6,7,8] [3,7] ?_;rotate_left;refine wA [7] [3,5,6,7] [3,7] ?_;refine aI 83 [(3,_),(5,_),(6,_),(7,_)] [(3,_)] aa J ⟨.inl J,.inl J,.inl J,.inr ⟨_,_,rfl,rfl,rfl⟩,trivial⟩ ⟨rfl,trivial⟩ ?_;refine gz [0] [3,5,6,7] [3] ?_;refine dC [4] [[(3,.box 29 [vvv,vvv,vvv,vvv])],[(3,.box 29 [vvw (.sl ((gG (ar (l.drop 1)).length l).sets.map jb)),vvw (.sl ((gG (ar (l.drop 1)).length l).rules.map bn)),vvw (.sl ((gG (ar (l.drop 1)).length l).classes.map bL)),vvw (strs (gG (ar (l.drop 1)).length l).order)])]] 5 [] [(80,vvw (af (ar (l.drop 1)))),(81,vvw (cV (gG (ar (l.drop 1)).length l))),(82,vvw (.sl ((fp (ar (l.drop 1)).length l i).map cS))),(2,vvw (af (ar (l.drop 1)))),(3,.pbox 3 0),(5,vvw (af (ar (l.drop 1)))),(6,vvw (kn (gG (ar (l.drop 1)).length l))),(7,vvw (.sl ((fp (ar (l.drop 1)).length l i).map cS)))] (ai bS (ai (fun _=>(au (aG J lO jN J (aah J)) J)) (ai bS (ai bS trivial)))) (ai (fun X e7 dH c6=>b8 J (b7 (u:=3) (v:=81) (id:=3) J J e7 jN ((c6 3 acM).trans J) J ((c6 81 acM).trans J) J acM J J (fun t' z h=>cD (by rfl) (dH t' z h)) J aa)) (trivial)) ?_;refine bM (n:=1) acL ?_;refine xe 5 ?_;refine bf acL ?_;refine Db [2] ?_;refine lY J J J ?_;rotate_left;refine wA [14] [3,5,6,7] [3,7] ?_;refine aI 83 [(3,_),(5,_),(6,_),(7,_)] [(3,_)] aa J ⟨.inl J,.inl J,.inl J,.inr ⟨_,_,rfl,rfl,rfl⟩,trivial⟩ ⟨rfl,trivial⟩ ?_;refine gz [0] [3,5,6,7] [3] ?_;refine dC [4] [[(3,.box 29 [vvv,vvv,vvv,vvv])],[(3,.box 29 [vvw (.sl ((gG (ar (l.drop 1)).length l).sets.map jb)),vvw (.sl ((gG (ar (l.drop 1)).length l).rules.map bn)),vvw (.sl ((gG (ar (l.drop 1)).length l).classes.map bL)),vvw (strs (gG (ar (l.drop 1)).length l).order)])]] 5 [] [(80,vvw (af (ar (l.drop 1)))),(81,vvw (cV (gG (ar (l.drop 1)).length l))),(82,vvw (.sl ((fp (ar (l.drop 1)).length l i).map cS))),(2,vvw (af (ar (l.drop 1)))),(3,.pbox 3 0),(5,vvw (af (ar (l.drop 1)))),(6,vvw (kn (gG (ar (l.drop 1)).length l))),(7,vvw (.sl ((fp (ar (l.drop 1)).length l i).map cS)))] (ai bS (ai (fun _=>(au (aG J lO jN J (aah J)) J)) (ai bS (ai bS trivial)))) (ai (fun X e7 dH c6=>b8 J (b7 (u:=3) (v:=81) (id:=3) J J e7 jN ((c6 3 acM).trans J) J ((c6 81 acM).trans J) J acM J J (fun t' z h=>cD (by rfl) (dH t' z h)) J aa)) (trivial)) ?_;refine bM (n:=1) acL ?_;refine xe 5 ?_;refine bf acL ?_;refine Db [2] ?_;refine lY J J J ?_;rotate_left;refine wA [19] [3,5,6,7] [3,7] ?_;refine aI 83 [(3,_),(5,_),(6,_),(7,_)] [(3,_)] aa J ⟨.inl J,.inl J,.inl J,.inr ⟨_,_,rfl,rfl,rfl⟩,trivial⟩ ⟨rfl,trivial⟩ ?_;refine gz [0] [3,5,6,7] [3] ?_;refine dC [4] [[(3,.box 29 [vvv,vvv,vvv,vvv])],[(3,.box 29 [vvw (.sl ((gG (ar (l.drop 1)).length l).sets.map jb)),vvw (.sl ((gG (ar (l.drop 1)).length l).rules.map bn)),vvw (.sl ((gG (ar (l.drop 1)).length l).classes.map bL)),vvw (strs (gG (ar (l.drop 1)).length l).order)])]] 5 [] [(80,vvw (af (ar (l.drop 1)))),(81,vvw (cV (gG (ar (l.drop 1)).length l))),(82,vvw (.sl ((fp (ar (l.drop 1)).length l i).map cS))),(2,vvw (af (ar (l.drop 1)))),(3,.pbox 3 0),(5,vvw (af (ar (l.drop 1)))),(6,vvw (kn (gG (ar (l.drop 1)).length l))),(7,vvw (.sl ((fp (ar (l.drop 1)).length l i).map cS)))] (ai bS (ai (fun _=>(au (aG J lO jN J (aah J)) J)) (ai bS (ai bS trivial)))) (ai (fun X e7 dH c6=>b8 J (b7 (u:=3) (v:=81) (id:=3) J J e7 jN ((c6 3 acM).trans J) J ((c6 81 acM).trans J) J acM J J (fun t' z h=>cD (by rfl) (dH t' z h)) J aa)) (trivial)) ?_;refine bM (n:=1) acL ?_;refine xe 5 ?_;refine bf acL ?_;refine Db [2] ?_;refine lY J J J ?_;rotate_left
 all_goals first
  | (
    exact⟨_,⟨i+1,rfl,acK,by first|(rw[FP acK acN,aas];rfl)|(rw[Ja acN];rfl)⟩,acK⟩;done)
  | (
    rcases aaK i 12 with hi12|hi12
    · have h5 := vo (A := (ar (l.drop 1)).length) (l := l) (i := i) acK (12 - i)
      rw[show i+(12-i)=12 by omega] at h5;rw[h5];exact⟨rfl,rfl,rfl⟩
    · rw[show i=12 by omega];exact⟨rfl,rfl,rfl⟩;done)
theorem z7 {l:List Int}(hl:l.length≤9223372036854775807)(h64:fx l)(h:¬kN l 0 3=1):aU Tryz.prog 10 [ints l] (.p (.tup [af aS,cV (gG aS.length l),.sl ((fp aS.length l 12).map cS)])):=by
 have hA:3≤aS.length∧aS.length≤10:=by decide
 have hcl:=vn aS.length (l.drop 20);have hgs:pF (gG aS.length l):=ue acK _;refine px Xl (aah J) fun w0 M0 aa=>?_
 refine c4 [9] [0,3] [3] ?_;refine oC J J J J (zh) ?_;refine wA [7] [0,3,5,15] [3] ?_;refine oC J J J J (eI h64 acM) ?_;refine oP J (bj (b':=false) (jO J J J) (decide_eq_false h)) ?_;refine wA [9] [0,3,5,21,22] [3] ?_;refine oN J J J J J (jK (n:=20) hl acK) ?_;refine oN J J J J J (pk (a:=aS) (l:=l.drop 20) acK (by rw[aaw];omega) (fx.drop h64 20)) ?_;refine wA [5] [0,3,5,6] [3,6] ?_;refine aI 83 [(0,_),(3,_),(5,_),(6,_)] [(3,_)] aa J ⟨.inl J,.inl J,.inl J,.inr ⟨_,_,rfl,rfl,rfl⟩,trivial⟩ ⟨rfl,trivial⟩ ?_;refine gz [1001,9] [0,3,5,6,7,8] [3,7] ?_;have hcl:0<(gG aS.length l).classes.length∧(gG aS.length l).classes.length≤3:=hcl;refine lr (fun zl zo zm zs=>∃i:Nat,zm=12-i∧(i≤12)∧zs=eJ 83 [(8,vvw (int i))] zl [(3,.box 29 [vvv,vvv,vvv,vvv]),(7,.arr 72 ((fp aS.length l i).map cS))] zo) ?_ ?_;exact⟨_,0,rfl,acK,rfl⟩;rintro zm zs ⟨i,rfl,aY,rfl⟩;have hll:=uf (A:=aS.length) (l:=l) i;refine wS [4006] [0,3,5,6,7,8,27] [3,7] ?_ ?_<;>intro h1';refine wS [1,4003] [0,3,5,6,7,8,32] [3,7] ?_ ?_<;>intro h2';refine wS [2,3004] [0,3,5,6,7,8,37] [3,7] ?_ ?_<;>intro h3;refine wZ [9,5000] ?_;refine oP J (du (a':=((90+7*i:Nat):Int)) (dP J J J acK) acK) ?_;refine wA [0] [0,3,5,6,7,8,40,43] [3,7] ?_;refine oN J J J J J (jK (n:=90+7*i) hl acK) ?_;refine wA [4] [0,3,5,6,7,8,9] [3,7] ?_;have hat0:=js (l:=(mG l i)) (i:=0) (most:=((gG aS.length l).classes.length:Int)) acK;have hat1:=js (l:=(mG l i)) (i:=1) (most:=4) acM;refine wA [2] [0,3,5,6,7,8,9,45] [3,7] ?_;refine oC J J J J (eI (l:=(mG l i)) (i:=1) (fx.drop h64 _) acM) ?_;refine wA [0,4] [0,3,5,6,7,8,9,10] [3,7] ?_;refine dC [17,18] [[(3,.box 29 [vvv,vvv,vvv,vvv]),(7,.arr 72 ((fp aS.length l i).map cS))],[(3,.box 29 [vvv,vvv,vvv,vvv]),(7,.arr 72 ((fp aS.length l i).map cS)),(11,.box 72 [vvv,vvw (.sc (.string ⟨#[]⟩))])],[(3,.box 29 [vvv,vvv,vvv,vvv]),(7,.arr 72 ((fp aS.length l i).map cS)),(11,.box 72 [vvw (ints (mJ aS.length l i).lemma_),vvw (ah (mJ aS.length l i).class_)])]] 19 [] [(48,vvw (.pc (qp (gG aS.length l)) 2)),(49,vvw (.sl ((gG aS.length l).classes.map bL))),(50,vvw (ints (mG l i))),(51,vvw (.pc (qp (gG aS.length l)) 2)),(52,vvw (.sl ((gG aS.length l).classes.map bL))),(53,vvw (int (gG aS.length l).classes.length)),(54,vvw (int (kN (mG l i) 0 (gG aS.length l).classes.length))),(55,vvw (.pc (o6 ((gG aS.length l).classes.getD (kN (mG l i) 0 (gG aS.length l).classes.length).toNat default)) 0)),(56,vvw (.pc (o6 ((gG aS.length l).classes.getD (kN (mG l i) 0 (gG aS.length l).classes.length).toNat default)) 0)),(57,vvw (ah (mJ aS.length l i).class_)),(58,vvw (af aS)),(59,vvw (ints (mG l i))),(60,vvw (ints ((mG l i).drop 2))),(61,vvw (int (1+kN (mG l i) 1 4))),(62,vvw (ints (((mG l i).drop 2).take (1+kN (mG l i) 1 4).toNat))),(63,vvw (ints (mJ aS.length l i).lemma_)),(64,vvw (cS (mJ aS.length l i))),(11,.pbox 11 0),(0,vvw (ints l)),(3,.pbox 3 0),(5,vvw (af aS)),(6,vvw (kn (gG aS.length l))),(7,.own 7),(8,vvw (int i)),(9,vvw (ints (mG l i))),(10,vvw (int (1+kN (mG l i) 1 4)))] (ai bS (ai bS (ai bS (ai bS (ai bS (ai bS (ai (fun _=>(bg J J J (eI (l:=(mG l i)) (i:=0) (fx.drop h64 _) acK) aa)) (ai (fun _=>(gF (f:=bL) (l:=(gG aS.length l).classes) (i:=(kN (mG l i) 0 (gG aS.length l).classes.length).toNat) (z:=(gG aS.length l).classes.getD (kN (mG l i) 0 (gG aS.length l).classes.length).toNat default) J J Tryz.underlying26 Cz J J acK (fun _=>rfl))) (ai bS (ai bS (ai bS (ai bS (ai (fun _=>(bC J J J J (jK (l:=(mG l i)) (n:=2) (by unfold mG;rw[aaw];omega) acK) aa)) (ai bS (ai (fun _=>(bg J J J ((ak.weaken (oi (l:=(mG l i).drop 2) (n:=(1+kN (mG l i) 1 4)) (by unfold mG;rw[aaw,aaw];omega) acK))) aa)) (ai (fun _=>(bg J J J ((ak.weaken (gn (a:=aS) (l:=((mG l i).drop 2).take (1+kN (mG l i) 1 4).toNat) (fx.take (fx.drop (fx.drop h64 _) _) _) (by rw[aau];omega) acK))) aa)) (ai bS trivial))))))))))))))))) (ai (fun X e7 dH c6=>gh (t:=11) J J J J e7 TS J J (fun t' z h hne=>eT (by rfl) (dH t' z h) hne) J aa) (ai (fun X e7 dH c6=>b8 J (b7 (u:=11) (v:=64) (id:=11) J J e7 Vo ((c6 11 acM).trans J) J ((c6 64 acM).trans J) J acM J J (fun t' z h=>cD (by rfl) (dH t' z h)) J aa)) (trivial))) ?_;refine bM (n:=0) acL ?_;refine bf acL ?_;refine iS [3] [0,3,5,6,7,8,11] [3,7,11] ?_;refine oP J (au (aG J lO jN J (aah J)) J) ?_;refine wA [4] [0,3,5,6,7,8,11,66,68,70] [3,7,11] ?_;refine oN J J J J J (ph (x:=(mJ aS.length l i)) hgs (by have:(mJ aS.length l i).lemma_.length≤12:=FQ;omega)) ?_;refine wS [3013] [0,3,5,6,7,8,11,75] [3,7,11] ?_ ?_<;>intro h4;refine wZ [4,5000] ?_;refine oS J (step_append J J J J Tryz.underlying30 EJ J J aa (cI J (bW (by rfl))) (by simp only[aai,aaZ];omega) (by simp only[aai,aaZ];omega)) J ?_;refine wA [6,9002] [0,3,5,6,7,8] [3,7] ?_;rotate_left;refine wA [6,9002] [0,3,5,6,7,8] [3,7] ?_;rotate_left;refine wA [7] [3,5,6,7] [3,7] ?_;refine aI 83 [(3,_),(5,_),(6,_),(7,_)] [(3,_)] aa J ⟨.inl J,.inl J,.inl J,.inr ⟨_,_,rfl,rfl,rfl⟩,trivial⟩ ⟨rfl,trivial⟩ ?_;refine gz [0] [3,5,6,7] [3] ?_;refine dC [4] [[(3,.box 29 [vvv,vvv,vvv,vvv])],[(3,.box 29 [vvw (.sl ((gG aS.length l).sets.map jb)),vvw (.sl ((gG aS.length l).rules.map bn)),vvw (.sl ((gG aS.length l).classes.map bL)),vvw (strs (gG aS.length l).order)])]] 5 [] [(80,vvw (af aS)),(81,vvw (cV (gG aS.length l))),(82,vvw (.sl ((fp aS.length l i).map cS))),(2,vvw (af aS)),(3,.pbox 3 0),(5,vvw (af aS)),(6,vvw (kn (gG aS.length l))),(7,vvw (.sl ((fp aS.length l i).map cS)))] (ai bS (ai (fun _=>(au (aG J lO jN J (aah J)) J)) (ai bS (ai bS trivial)))) (ai (fun X e7 dH c6=>b8 J (b7 (u:=3) (v:=81) (id:=3) J J e7 jN ((c6 3 acM).trans J) J ((c6 81 acM).trans J) J acM J J (fun t' z h=>cD (by rfl) (dH t' z h)) J aa)) (trivial)) ?_;refine bM (n:=1) acL ?_;refine xe 5 ?_;refine bf acL ?_;refine Db [2] ?_;refine lY J J J ?_;rotate_left;refine wA [14] [3,5,6,7] [3,7] ?_;refine aI 83 [(3,_),(5,_),(6,_),(7,_)] [(3,_)] aa J ⟨.inl J,.inl J,.inl J,.inr ⟨_,_,rfl,rfl,rfl⟩,trivial⟩ ⟨rfl,trivial⟩ ?_;refine gz [0] [3,5,6,7] [3] ?_;refine dC [4] [[(3,.box 29 [vvv,vvv,vvv,vvv])],[(3,.box 29 [vvw (.sl ((gG aS.length l).sets.map jb)),vvw (.sl ((gG aS.length l).rules.map bn)),vvw (.sl ((gG aS.length l).classes.map bL)),vvw (strs (gG aS.length l).order)])]] 5 [] [(80,vvw (af aS)),(81,vvw (cV (gG aS.length l))),(82,vvw (.sl ((fp aS.length l i).map cS))),(2,vvw (af aS)),(3,.pbox 3 0),(5,vvw (af aS)),(6,vvw (kn (gG aS.length l))),(7,vvw (.sl ((fp aS.length l i).map cS)))] (ai bS (ai (fun _=>(au (aG J lO jN J (aah J)) J)) (ai bS (ai bS trivial)))) (ai (fun X e7 dH c6=>b8 J (b7 (u:=3) (v:=81) (id:=3) J J e7 jN ((c6 3 acM).trans J) J ((c6 81 acM).trans J) J acM J J (fun t' z h=>cD (by rfl) (dH t' z h)) J aa)) (trivial)) ?_;refine bM (n:=1) acL ?_;refine xe 5 ?_;refine bf acL ?_;refine Db [2] ?_;refine lY J J J ?_;rotate_left;refine wA [19] [3,5,6,7] [3,7] ?_;refine aI 83 [(3,_),(5,_),(6,_),(7,_)] [(3,_)] aa J ⟨.inl J,.inl J,.inl J,.inr ⟨_,_,rfl,rfl,rfl⟩,trivial⟩ ⟨rfl,trivial⟩ ?_;refine gz [0] [3,5,6,7] [3] ?_;refine dC [4] [[(3,.box 29 [vvv,vvv,vvv,vvv])],[(3,.box 29 [vvw (.sl ((gG aS.length l).sets.map jb)),vvw (.sl ((gG aS.length l).rules.map bn)),vvw (.sl ((gG aS.length l).classes.map bL)),vvw (strs (gG aS.length l).order)])]] 5 [] [(80,vvw (af aS)),(81,vvw (cV (gG aS.length l))),(82,vvw (.sl ((fp aS.length l i).map cS))),(2,vvw (af aS)),(3,.pbox 3 0),(5,vvw (af aS)),(6,vvw (kn (gG aS.length l))),(7,vvw (.sl ((fp aS.length l i).map cS)))] (ai bS (ai (fun _=>(au (aG J lO jN J (aah J)) J)) (ai bS (ai bS trivial)))) (ai (fun X e7 dH c6=>b8 J (b7 (u:=3) (v:=81) (id:=3) J J e7 jN ((c6 3 acM).trans J) J ((c6 81 acM).trans J) J acM J J (fun t' z h=>cD (by rfl) (dH t' z h)) J aa)) (trivial)) ?_;refine bM (n:=1) acL ?_;refine xe 5 ?_;refine bf acL ?_;refine Db [2] ?_;refine lY J J J ?_;rotate_left
 all_goals first
  | (
    exact⟨_,⟨i+1,rfl,acK,by first|(rw[FP acK acN,aas];rfl)|(rw[Ja acN];rfl)⟩,acK⟩;done)
  | (
    rcases aaK i 12 with hi12|hi12
    · have h5 := vo (A := aS.length) (l := l) (i := i) acK (12 - i)
      rw[show i+(12-i)=12 by omega] at h5;rw[h5];exact⟨rfl,rfl,rfl⟩
    · rw[show i=12 by omega];exact⟨rfl,rfl,rfl⟩;done)
end Go.Proofs.YtlapahnodhmcpaaGreat
namespace Go.Wf
open Go.Am Go.Wb Go.Wc
abbrev Pu:aC:=⟨[],[],[⟨[110],.mk 5 [] [.mk 2 [0,1,2,3,4,5,6] []],0,[⟨[115,103],[],[],[]⟩,⟨[112,108],[],[5],[]⟩]⟩],[]⟩
abbrev K7:List cy:=[⟨[2,0,6],[110]⟩,⟨[2,0,6,5],[110]⟩]
abbrev XH:List cy:=[⟨[2,0,6,5],[110]⟩,⟨[2,0,6,5],[118]⟩]
abbrev Jb:List (List aK):=aH Pu K7
abbrev lvA:List mF:=[⟨0,⟨[112,108],[2,0,6,5],[3],[]⟩⟩,⟨1,⟨[115,103],[2,0,6,5],[],[]⟩⟩]
theorem Pb:pF Pu:=by refine⟨by decide,(fun r hr=>by cases hr),by decide,fun c hc=>?_,by decide⟩;rw[aay.1 hc];refine⟨by decide,fun x hx=>?_,by decide +kernel,by decide +kernel⟩;simp only[aaC,aca,or_false] at hx;rcases hx with rfl|rfl<;>exact⟨by decide,by decide,by decide⟩
theorem Xm:eE Pu K7=0:=by decide +kernel
theorem Xn:qA Pu K7=0:=by decide +kernel
theorem SJ:eE Pu XH=6:=by decide +kernel
theorem Xo:qA Pu XH=1:=by decide +kernel
theorem Un:ki Jb [2,0,6,5]=lvA:=by rw[HD (sJ _ _)];decide +kernel
theorem Rr:cJ (ki Jb [2,0,6,5]) (ki Jb [2,0,6,5]).length=[]:=by rw[Rp (sJ _ _)];decide +kernel
theorem Uo:(Rl Jb).length=3:=by rw[OV];decide +kernel
theorem Up:(fy Jb 1).length=2:=by decide +kernel
theorem Jc:sF Jb:=oe Pb acM
def Pc (A:Nat)(F:List (List aK))(m:List Int):List (List Int):=[lC A m,[],[63],[-1]]++(og F).take 20
theorem K8 {l:List (List Int)}{i:Nat}(h:i≤l.length)(h2:i≤20)(h3:¬(i<l.length∧i<20)):l.take 20=l.take i:=by
 rcases aaK i 20 with h4|h4
 ·rw[aaB acK,aaB acK]
 ·rw[show i=20 by omega]
def zp (l:List mF)(x:Int)(f:aK):Bool:=l.any fun a=>decide (a.lexeme=x)&&decide (a.form=f)
def ru (l:List (List Int))(w:List Int):Bool:=l.any fun x=>decide (x=w)
theorem Pd {α:Type} [Inhabited α]{p:α→Bool}{l:List α}{k:Nat}(hk:k<l.length)(h:p (l.getD k default)=true):l.any p=true:=aaQ.2 ⟨_,aM hk,h⟩
end Go.Wf
namespace Go.Proofs.YtlapahnodhmcpaaGreat
open Go.Am Go.Wb Go.Wc Go.Wf Go.We
theorem po {l:List Int}(hl:l.length≤9223372036854775807)(h64:fx l):aU Tryz.prog 10 [ints l] (.p (.tup [af (iR l),cV (gG (iR l).length l),.sl ((fp (iR l).length l 12).map cS)])):=by
 by_cases h:kN l 0 3=1
 ·rw[show iR l=ar (l.drop 1) from if_pos h];exact z6 hl h64 h
 ·rw[show iR l=aS from if_neg h];exact z7 hl h64 h
theorem Rs:aU Tryz.prog 12 [cV Pu,.sl (K7.map cS)] (.p (.tup [pD K7 Jb,int 0,int 0])):=by have:=vd (g:=Pu) (l:=K7) Pb acM acM Xm;rwa [Xn] at this
theorem Rt:aU Tryz.prog 12 [cV Pu,.sl (XH.map cS)] (.p (.tup [.sc (.pointer none),int 1,int 6])):=by have:=Bx (g:=Pu) (l:=XH) Pb acM acM (by rw[SJ];decide);rwa [Xo,SJ] at this
theorem HH:aU Tryz.prog 22 [pD K7 Jb,ints [2,0,6,5]] (.p (.sl (lvA.map zU))):=by have:=ua (l:=K7) (F:=Jb) (w:=[2,0,6,5]) Jc acM;rwa [Un] at this
theorem Pe:aU Tryz.prog 25 [pD K7 Jb,ints [2,0,6,5]] (.p (ints [])):=by have:=KX (l:=K7) (F:=Jb) (w:=[2,0,6,5]) Jc acM;rwa [Rr] at this
abbrev ZJ:=dF 0 Tryz.func19
theorem j9:ak Tryz.prog 19 [] (.p (bool true)):=by
 refine cF ZJ fun w0 M0 aa=>?_
 refine AD [7,5000] ?_;refine oP J (au (aT J GX o3 J J J) J) ?_;refine wZ [0,5000] ?_;refine oP J (au (aT J GX o3 J J J) J) ?_;refine wA [7] [15] [] ?_;refine oP J (au (aT J N2 N1 J J J) J) ?_;refine wA [0,0] [15,16,17] [] ?_;refine oP J (au (aT J N2 N1 J J J) J) ?_;refine wA [0,0] [15,19] [] ?_;refine oP J (au (aT J TV QG J J J) J) ?_;refine wA [0,0] [21] [] ?_;refine oP J (au (aT J Yp Yo J J J) J) ?_;refine wZ [6,6,3,5000] ?_;refine oN J J J J J (Rs) ?_;refine wZ [16,5000] ?_;refine oN J J J J J (Rt) ?_;refine wA [13] [3,4,6,8,9,46] [] ?_;refine oP J (bj (b':=false) (kJ J Tryz.underlying35 J J) (rfl)) ?_;refine wA [2] [3,4,8,9,48,49] [] ?_;refine oP J (bj (b':=false) (cZ J J J) (rfl)) ?_;refine wA [3] [3,4,9,52,53] [] ?_;refine oP J (bj (b':=false) (cZ J J J) (rfl)) ?_;refine wA [3] [3,4,56,57] [] ?_;refine oP J (bj (b':=false) (jO J J J) (rfl)) ?_;refine wA [10] [3,4,60,61] [] ?_;refine oN J J J J J (HH) ?_;refine wZ [7,5000] ?_;refine oP J (bj (b':=false) (cZ J J J) (rfl)) ?_;refine wA [2] [3,4,10,66,67] [] ?_;refine oP J (dS J Tryz.underlying55 Kn J J acM (fun _=>rfl)) ?_;refine wA [2] [3,4,10,66,70] [] ?_;refine oP J (bj (b':=false) (cZ J J J) (rfl)) ?_;refine wA [3] [3,4,10,73,74] [] ?_;refine oP J (dS J Tryz.underlying55 Kn J J acM (fun _=>rfl)) ?_;refine wA [3] [3,4,10,73,78] [] ?_;refine oP J (bj (b':=false) (ui J J J) acM) ?_;refine wA [3] [3,4,10,81,82] [] ?_;refine oP J (dS J Tryz.underlying55 Kn J J acM (fun _=>rfl)) ?_;refine wA [2] [3,4,10,81,85] [] ?_;refine oP J (bj (b':=false) (cZ J J J) (rfl)) ?_;refine wA [3] [3,4,10,88,89] [] ?_;refine oP J (dS J Tryz.underlying55 Kn J J acM (fun _=>rfl)) ?_;refine wA [3] [3,4,10,88,93] [] ?_;refine oP J (bj (b':=false) (ui J J J) acM) ?_;refine wA [9] [3,4,10,96] [] ?_;refine oN J J J J J (u9 (l:=K7) (F:=Jb) acM) ?_;refine oP J (bj (b':=true) (jO J J J) acM) ?_;refine wA [2] [3,4,10,99,100] [] ?_;refine oP J (dS J Tryz.underlying55 Kn J J acM (fun _=>rfl)) ?_;refine wZ [3,5000] ?_;refine oP J (ia (b':=true) J J J (gp (a:=[3]) (b:=[3]) acM acM) aa acM) ?_;refine wA [3] [3,4,108,109] [] ?_;refine oP J (dS J Tryz.underlying55 Kn J J acM (fun _=>rfl)) ?_;refine wZ [3,5000] ?_;refine oP J (bj (b':=true) (jO J J J) acM) ?_;refine wA [4] [4,117,118,119] [] ?_;refine oN J J J J J (Pe) ?_;refine wA [0,0] [4,117,121] [] ?_;refine oP J (bj (b':=true) (jO J J J) acM) ?_;refine wA [3] [4,124,125] [] ?_;refine oN J J J J J (v8 (l:=K7) (F:=Jb) Jc) ?_;refine wA [0,0] [4,124,127] [] ?_;refine oP J (bj (b':=true) (jO J J J) (by rw[Uo];rfl)) ?_;refine wA [3] [130,131] [] ?_;refine oN J J J J J (fm (l:=K7) (F:=Jb) (i:=1) Jc) ?_;refine wA [0,0] [130,133] [] ?_;refine oP J (bj (b':=true) (jO J J J) (by rw[Up];rfl)) ?_;refine wZ [8005] ?_;rfl
abbrev ZK:=dF 6 Tryz.func20
theorem Uq {a:List cK}{y:CQ}{m:List Int}(ha:0<a.length∧a.length≤1000)(hF:sF y.f)(hm:m.length≤9223372036854775807)(h64:fx m):aU Tryz.prog 20 [af a,Hp y,ints m] (.p (ly (Pc a.length y.f m))):=by
 refine cN ZK fun w0 M0 aa=>?_
 refine c4 [2,5] [0,2,4] [] ?_;refine oP J (au (aG J TQ QA J (aah J)) J) ?_;refine oN J J J J J (KW hF) ?_;refine wA [7] [7,12,13] [] ?_;refine oP J (bg J J J ((ak.weaken (gn h64 hm ha))) aa) ?_;refine wA [0,0,1000,10] [7,8,9] [17] ?_;refine lr (fun zl zo zm zs=>∃i:Nat,zm=20-i∧(i≤(og y.f).length)∧(i≤20)∧zs=eJ 36 [(8,.own 17),(9,vvw (int i))] zl [(17,.arr 22 (([lC a.length m,[],[63],[-1]]++(og y.f).take i).map ints))] zo) ?_ ?_;exact⟨_,0,rfl,aan _,aan _,rfl⟩;rintro zm zs ⟨i,rfl,aY,aq,rfl⟩;have hlr:((og y.f).take i).length=i:=by rw[aau];omega
 refine wS [5,4002] [7,8,9,22] [17] ?_ ?_<;>intro h1';refine wS [3005] [7,8,9,25] [17] ?_ ?_<;>intro h2;refine wA [9,1,1000,6,9002] [7,8,9] [17] ?_;exact⟨_,⟨i+1,rfl,acK,acK,by rw[take_succ acK,aas,aas,aas,aaY];rfl⟩,acK⟩;refine wA [7] [8] [17] ?_;refine aI 36 [(8,_)] [] aa J ⟨.inr ⟨_,_,rfl,rfl,rfl⟩,trivial⟩ trivial ?_;refine xP [8006] ?_;rotate_left;refine wA [12] [8] [17] ?_;refine aI 36 [(8,_)] [] aa J ⟨.inr ⟨_,_,rfl,rfl,rfl⟩,trivial⟩ trivial ?_;refine xP [8006] ?_;rotate_left
 all_goals
  unfold Pc;rw[K8 (l:=og y.f) (i:=i) acK acK acK]
abbrev ZL:=dF 6 Tryz.func28
theorem HI {l:List mF}{x:Int}{f:aK}(hl:l.length≤1099511627776)(hL:∀a∈l,zx a.form)(hf:zx f):ak Tryz.prog 28 [.sl (l.map zU),int x,fQ f] (.p (bool (zp l x f))):=by
 refine cF ZL fun w0 M0 aa=>?_
 refine c4 [2,10] [0,1,5,7] [] ?_;refine lr (fun zl zo zm zs=>∃k:Nat,zm=l.length-k∧(k≤l.length)∧(∀j,j<k→(decide ((l.getD j default).lexeme=x)&&decide ((l.getD j default).form=f))=false)∧zs=eJ 30 [(7,vvw (int k))] zl [] zo) ?_ ?_;exact⟨_,0,rfl,aan _,fun j hj=>absurd hj acK,rfl⟩;rintro zm zs ⟨k,rfl,aY,aq,rfl⟩;refine wS [5,3003] [0,1,5,7,11] [] ?_ ?_<;>intro h1;refine wS [2006,6002,7005] [0,1,5,7,21] [] ?_ ?_<;>intro h2';refine wA [6002,3] [0,1,5,7,21,26,27] [] ?_;refine oE J J J J J J (kR (f:=(l.getD k default).form) (g:=f) (hL _ (aM acK)) hf) ?_;refine wS [3003] [0,1,5,7,29] [] ?_ ?_<;>intro h3;refine wZ [8012] ?_;rotate_left;refine wA [6,9002] [0,1,5,7] [] ?_;rotate_left;refine wA [16,9002] [0,1,5,7] [] ?_;rotate_left;refine wZ [8012] ?_;rotate_left
 all_goals first
  | (
    unfold zp;first|(rw[Pd (p:=fun a:mF=>decide (a.lexeme=x)&&decide (a.form=f)) (k:=k) acK (by simp_all)];done)|(rw[xS (p:=fun a:mF=>decide (a.lexeme=x)&&decide (a.form=f)) (fun j hj=>aq j acK)];done);done)
  | (
    exact⟨_,⟨k+1,rfl,acK,bX aq (by simp_all),rfl⟩,acK⟩;done)
abbrev ZM:=dF 4 Tryz.func29
theorem qE {l:List (List Int)}{w:List Int}(hl:l.length≤1099511627776)(hL:∀x∈l,x.length≤1099511627776)(hw:w.length≤1099511627776):ak Tryz.prog 29 [ly l,ints w] (.p (bool (ru l w))):=by
 refine cF ZM fun w0 M0 aa=>?_
 refine c4 [12] [0,1,5] [] ?_;refine lr (fun zl zo zm zs=>∃k:Nat,zm=l.length-k∧(k≤l.length)∧(∀j,j<k→decide (l.getD j default=w)=false)∧zs=eJ 18 [(5,vvw (int k))] zl [] zo) ?_ ?_;exact⟨_,0,rfl,aan _,fun j hj=>absurd hj acK,rfl⟩;rintro zm zs ⟨k,rfl,aY,aq,rfl⟩;refine wS [5,3003] [0,1,5,9] [] ?_ ?_<;>intro h1;refine wA [9,2] [0,1,5,15,16] [] ?_;refine oC J J J J (gp (a:=l.getD k default) (b:=w) (by have:=hL _ (aM (show k<l.length by omega));omega) acK) ?_;refine wS [3002] [0,1,5,17] [] ?_ ?_<;>intro h2;refine wZ [8012] ?_;rotate_left;refine wA [6,9002] [0,1,5] [] ?_;exact⟨_,⟨k+1,rfl,acK,bX aq (by simp_all),rfl⟩,acK⟩;refine wZ [8012] ?_;rotate_left
 all_goals
  unfold ru;first|(rw[Pd (p:=fun x:List Int=>decide (x=w)) (k:=k) acK (by simp_all)];done)|(rw[xS (p:=fun x:List Int=>decide (x=w)) (fun j hj=>aq j acK)];done)
end Go.Proofs.YtlapahnodhmcpaaGreat
namespace Go.Am
theorem aU.ZN {P:Program}{f:FuncId}{ds:List AV}{v:Value}(h:aU P f ds (.p (.sc v))):ak P f ds (.p (.sc v)) :=
 ⟨h.1, fun w vs hv hr => (h.2 w (fun _ => False) vs (fun b hb => hb.elim) hv hr).mono fun e w' ⟨z, he, hb, hrv⟩ => ⟨z, he, hb, by
  have h1:bJ w' (fun _=>False) z (.sc v):=hrv;cases h1 with
  | sc _ h2=>exact bJ.sc _ h2⟩⟩
end Go.Am
namespace Go.Wf
open Go.Am Go.Wb Go.Wc
theorem Ur {g:aC}{l:List cy}(h:l.length≤64)(hz:∀x∈l,cW g x.class_ x.lemma_=0):eE g l=0:=by unfold eE;rw[if_neg acK,C0 fun j hj=>decide_eq_true (hz _ (aM hj))]
structure qG (g:aC)(L:List cy):Prop where
 gs:pF g
 n:L.length≤5
 w:∀x∈L,x.lemma_.length≤12
 e:∀x∈L,cW g x.class_ x.lemma_=0
theorem Pf (l:List Int):qG (gG (iR l).length l) (fp (iR l).length l 12):=by have:=pn l;exact⟨ue acK _,uf _,fun x hx=>(w9 hx).2,fun x hx=>(w9 hx).1⟩
variable {g:aC} {L:List cy}
theorem qG.new (h:qG g L):eE g L=0:=Ur (by have:=h.n;omega) h.e
theorem qG.f (h:qG g L):sF (aH g L):=oe h.gs (by have:=h.n;omega)
theorem qG.w' (h:qG g L):∀x∈L,x.lemma_.length≤1048576:=fun x hx=>aaO (h.w x hx) acM
theorem qG.n' (h:qG g L):L.length≤1048576:=aaO h.n acM
variable{F:List (List aK)}
theorem zq (hF:sF F)(w:List Int):(dN F w).length≤1001000:=aaO (Ra _ _ _ _) (pg hF (aak _) acK)
theorem ug (hF:sF F)(w:List Int):∀x∈dN F w,zx x.form:=fun x hx=>by obtain⟨p,_,rfl,_⟩:=ub hx;exact gP hF p
theorem FR (hF:sF F):(og F).length≤1001000:=aaO (OI _ _ _) (pg hF (aak _) acK)
end Go.Wf
namespace Go.Proofs.YtlapahnodhmcpaaGreat
open Go.Am Go.Wb Go.Wc Go.Wf Go.We
theorem nz {l:List cy}{F:List (List aK)}{w:List Int}(hF:sF F)(hG:zg F)(hw:w.length≤1048576):aU Tryz.prog 22 [pD l F,ints w] (.p (.sl ((dN F w).map zU))):=by have:=ua (l:=l) hF hw;rwa [HD hG] at this
theorem C6 {l:List cy}{F:List (List aK)}(hF:sF F):aU Tryz.prog 27 [pD l F] (.p (ly (og F))):=by have:=v8 (l:=l) hF;rwa [OV] at this
theorem BA {g:aC}{L:List cy}(h:qG g L):aU Tryz.prog 12 [cV g,.sl (L.map cS)] (.p (.tup [pD L (aH g L),int (qA g L),int 0])):=vd h.gs h.n' h.w' h.new
namespace morphAnalyses
open Go.ChangeShapes Go.WideShapes Go.ChangeAt Go.RowKit Go.Am
end morphAnalyses
end Go.Proofs.YtlapahnodhmcpaaGreat
