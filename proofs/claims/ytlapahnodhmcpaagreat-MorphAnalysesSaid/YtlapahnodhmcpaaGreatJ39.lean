/-
  Part of the proof.
-/
import Derived.Test.YtlapahnodhmcpaaGreatJ0
import Derived.Test.YtlapahnodhmcpaaGreatJ16
import Derived.Test.YtlapahnodhmcpaaGreatJ38
import Derived.Test.YtlapahnodhmcpaaGreatJ35
import Derived.Test.YtlapahnodhmcpaaGreatJ22
import Derived.Test.YtlapahnodhmcpaaGreatJ6
set_option linter.unusedVariables false
set_option linter.unusedSectionVars false
set_option linter.unusedSimpArgs false
set_option maxRecDepth 100000
set_option maxHeartbeats 40000000
namespace Go.Wf
open Go.Am Go.Wb Go.Wc
def mn (l:List Int):List cQ:=if mr l 0 3=1 then ar (l.drop 1) else aN
def gG (A:Nat)(l:List Int):aI:=EZ A (l.drop 20)
def mG (l:List Int)(i:Nat):List Int:=l.drop (90+7*i)
def mo (A:Nat)(l:List Int)(i:Nat):dY:=⟨rp A (((mG l i).drop 2).take (1+mr (mG l i) 1 4).toNat),((gG A l).classes.getD (mr (mG l i) 0 (gG A l).classes.length).toNat default).name⟩
def fI (A:Nat)(l:List Int):Nat→List dY
 | 0=>[]
 | i+1=>if(fI A l i).length<5∧cV (gG A l) (mo A l i).class_ (mo A l i).lemma_=0 then fI A l i++[mo A l i] else fI A l i
variable {A:Nat} {l:List Int}
theorem E2 {i:Nat}(h:(fI A l i).length<5)(h2:cV (gG A l) (mo A l i).class_ (mo A l i).lemma_=0):fI A l (i+1)=fI A l i++[mo A l i]:=if_pos ⟨h,h2⟩
theorem Ir {i:Nat}(h2:¬cV (gG A l) (mo A l i).class_ (mo A l i).lemma_=0):fI A l (i+1)=fI A l i:=if_neg fun q=>h2 q.2
theorem tJ:∀ i,(fI A l i).length≤5
 | 0=>Z5 _
 | i + 1 => by
   have:=tJ i
   unfold fI;split
   · next h=>rw[aab];show _+1≤5;omega
   · exact this
theorem uT {i:Nat}(h:5≤(fI A l i).length):∀j,fI A l (i+j)=fI A l i
 | 0=>rfl
 | j + 1 => by
   have ih:=uT h j
   refine(if_neg (fun q=>?_)).trans ih
   have h5:(fI A l (i+j)).length<5:=q.1
   rw[ih] at h5;omega
theorem wy:∀ {i:Nat}{x:dY},x∈fI A l i→cV (gG A l) x.class_ x.lemma_=0∧x.lemma_.length≤12
 | 0,x,h=>by cases h
 | i + 1, x, h => by
   unfold fI at h
   split at h
   · next q =>
     rcases aaC.1 h with h|h
     · exact wy h
     · rw [aag.1 h]
       refine⟨q.2,?_⟩
       show(rp A _).length≤12
       unfold rp;rw[Z0,aaa];omega
   · exact wy h
theorem E4 {i:Nat}:(mo A l i).lemma_.length≤12:=by
 show(rp A _).length≤12
 unfold rp;rw[Z0,aaa];omega
theorem yJ (l:List Int):0<(mn l).length∧(mn l).length≤10:=by
 unfold mn;split
 ·have:=ta (l.drop 1);omega
 ·exact⟨by decide,by decide⟩
end Go.Wf
namespace Go.Proofs.YtlapahnodhmcpaaGreat
open Go.Am Go.Wb Go.Wc Go.Wf Go.We
theorem Wy:OY Tryz.prog 10 Tryz.f10.ntmps 2 3 29 4 4 (Tryz.f10.body.getD .skip):=⟨Tryz.f10,Tryz.func10,rfl,rfl,rfl,acf,pS,l8⟩
theorem zf {l:List Int}(hl:l.length≤9223372036854775807)(h64:iM l)(h:mr l 0 3=1):aX Tryz.prog 10 [ints l] (.p (.tup [ah (ar (l.drop 1)),df (gG (ar (l.drop 1)).length l),.sl ((fI (ar (l.drop 1)).length l 12).map dm)])):=by
 have hA:=ta (l.drop 1)
 have hcl:=AT (ar (l.drop 1)).length (l.drop 20)
 have hgs:sk (gG (ar (l.drop 1)).length l):=yI ace _
 refine o0 Wy (ZZ J) fun w0 M0 aa=>?_
 refine c6 [9] [0,3] [3] ?_
 refine oC J J J J (yC) ?_
 refine wA [7] [0,3,5,15] [3] ?_
 refine oC J J J J (iD h64 acg) ?_
 refine oP J (cI (b':=true) (jK J J J) (decide_eq_true h)) ?_
 refine wA [5] [0,3,18] [3] ?_
 refine oN J J J J J (kx (n:=1) hl ace) ?_
 refine oP J (bC J J J ((aq.weaken (zd (l:=l.drop 1) (by rw[aad];omega) (iM.drop h64 1)))) aa) ?_
 refine wA [7] [0,3,5,21,22] [3] ?_
 refine oN J J J J J (kx (n:=20) hl ace) ?_
 refine oN J J J J J (tI (a:=(ar (l.drop 1))) (l:=l.drop 20) ace (by rw[aad];omega) (iM.drop h64 20)) ?_
 refine wA [5] [0,3,5,6] [3,6] ?_
 refine aS 83 [(0,_),(3,_),(5,_),(6,_)] [(3,_)] aa J ⟨.inl J,.inl J,.inl J,.inr ⟨_,_,rfl,rfl,rfl⟩,trivial⟩ ⟨rfl,trivial⟩ ?_
 refine gS [1001,9] [0,3,5,6,7,8] [3,7] ?_
 have hcl:0<(gG (ar (l.drop 1)).length l).classes.length∧(gG (ar (l.drop 1)).length l).classes.length≤3:=hcl
 refine lp (fun zm zs=>∃i:Nat,zm=12-i∧(i≤12)∧zs=⟨83,[(0,vvw (ints l)),(3,.pbox 3 0),(5,vvw (ah (ar (l.drop 1)))),(6,vvw (iF (gG (ar (l.drop 1)).length l))),(7,.own 7),(8,vvw (int i))],[(3,.box 29 [vvv,vvv,vvv,vvv]),(7,.arr 72 ((fI (ar (l.drop 1)).length l i).map dm))]⟩) ?_ ?_
 exact⟨_,0,rfl,ace,rfl⟩
 rintro zm zs ⟨i,rfl,aZ,rfl⟩
 have hll:=tJ (A:=(ar (l.drop 1)).length) (l:=l) i
 refine wS [4006] [0,3,5,6,7,8,27] [3,7] ?_ ?_<;>intro h1'
 refine wS [1,4003] [0,3,5,6,7,8,32] [3,7] ?_ ?_<;>intro h2'
 refine wS [2,3004] [0,3,5,6,7,8,37] [3,7] ?_ ?_<;>intro h3
 refine wZ [9,5000] ?_
 refine oP J (dF (a':=((90+7*i:Nat):Int)) (cH J J J ace) ace) ?_
 refine wA [0] [0,3,5,6,7,8,40,43] [3,7] ?_
 refine oN J J J J J (kx (n:=90+7*i) hl ace) ?_
 refine wA [4] [0,3,5,6,7,8,9] [3,7] ?_
 have hat0:=k9 (l:=(mG l i)) (i:=0) (most:=((gG (ar (l.drop 1)).length l).classes.length:Int)) ace
 have hat1:=k9 (l:=(mG l i)) (i:=1) (most:=4) acg
 refine wA [2] [0,3,5,6,7,8,9,45] [3,7] ?_
 refine oC J J J J (iD (l:=(mG l i)) (i:=1) (iM.drop h64 _) acg) ?_
 refine wA [0,4] [0,3,5,6,7,8,9,10] [3,7] ?_
 refine bw (n:=83) 2 (fun p=>[17,18].getD p 0) (fun p=>[[(3,.box 29 [vvv,vvv,vvv,vvv]),(7,.arr 72 ((fI (ar (l.drop 1)).length l i).map dm))],[(3,.box 29 [vvv,vvv,vvv,vvv]),(7,.arr 72 ((fI (ar (l.drop 1)).length l i).map dm)),(11,.box 72 [vvv,vvw (.sc (.string ⟨#[]⟩))])],[(3,.box 29 [vvv,vvv,vvv,vvv]),(7,.arr 72 ((fI (ar (l.drop 1)).length l i).map dm)),(11,.box 72 [vvw (ints (mo (ar (l.drop 1)).length l i).lemma_),vvw (aj (mo (ar (l.drop 1)).length l i).class_)])]].getD p []) 19 [(0,none),(1,none),(2,none),(3,none),(4,none),(5,none),(6,none),(7,none),(8,none),(9,none),(10,none),(11,none),(12,none),(13,none),(14,none),(15,none),(16,none)] [(48,vvw (.pc (rj (gG (ar (l.drop 1)).length l)) 2)),(49,vvw (.sl ((gG (ar (l.drop 1)).length l).classes.map bT))),(50,vvw (ints (mG l i))),(51,vvw (.pc (rj (gG (ar (l.drop 1)).length l)) 2)),(52,vvw (.sl ((gG (ar (l.drop 1)).length l).classes.map bT))),(53,vvw (int (gG (ar (l.drop 1)).length l).classes.length)),(54,vvw (int (mr (mG l i) 0 (gG (ar (l.drop 1)).length l).classes.length))),(55,vvw (.pc (oM ((gG (ar (l.drop 1)).length l).classes.getD (mr (mG l i) 0 (gG (ar (l.drop 1)).length l).classes.length).toNat default)) 0)),(56,vvw (.pc (oM ((gG (ar (l.drop 1)).length l).classes.getD (mr (mG l i) 0 (gG (ar (l.drop 1)).length l).classes.length).toNat default)) 0)),(57,vvw (aj (mo (ar (l.drop 1)).length l i).class_)),(58,vvw (ah (ar (l.drop 1)))),(59,vvw (ints (mG l i))),(60,vvw (ints ((mG l i).drop 2))),(61,vvw (int (1+mr (mG l i) 1 4))),(62,vvw (ints (((mG l i).drop 2).take (1+mr (mG l i) 1 4).toNat))),(63,vvw (ints (mo (ar (l.drop 1)).length l i).lemma_)),(64,vvw (dm (mo (ar (l.drop 1)).length l i))),(11,.pbox 11 0),(0,vvw (ints l)),(3,.pbox 3 0),(5,vvw (ah (ar (l.drop 1)))),(6,vvw (iF (gG (ar (l.drop 1)).length l))),(7,.own 7),(8,vvw (int i)),(9,vvw (ints (mG l i))),(10,vvw (int (1+mr (mG l i) 1 4)))] mixed acf acf acf acf acf ?_ (fun t d h=>h) J ?_ ?_ ?_
 · rfl
 · exact
     ai (fun _=>(b9 J BQ J)) (
     ai (fun _=>(cA J PN J J)) (
     ai (fun _=>(af J J)) (
     ai (fun _=>(b9 J BQ J)) (
     ai (fun _=>(cA J PN J J)) (
     ai (fun _=>(gy J Tryz.underlying26 J)) (
     ai (fun _=>(bC J J J (iD (l:=(mG l i)) (i:=0) (iM.drop h64 _) ace) aa)) (
     ai (fun _=>(j2 (f:=bT) (l:=(gG (ar (l.drop 1)).length l).classes) (i:=(mr (mG l i) 0 (gG (ar (l.drop 1)).length l).classes.length).toNat) (z:=(gG (ar (l.drop 1)).length l).classes.getD (mr (mG l i) 0 (gG (ar (l.drop 1)).length l).classes.length).toNat default) J J Tryz.underlying26 JF J J ace (fun _=>rfl))) (
     ai (fun _=>(b9 J Nj J)) (
     ai (fun _=>(cA J Uy J J)) (
     ai (fun _=>(af J J)) (
     ai (fun _=>(af J J)) (
     ai (fun _=>(bG J J J J (kx (l:=(mG l i)) (n:=2) (by unfold mG;rw[aad];omega) ace) aa)) (
     ai (fun _=>(af J J)) (
     ai (fun _=>(bC J J J ((aq.weaken (AR (l:=(mG l i).drop 2) (n:=(1+mr (mG l i) 1 4)) (by unfold mG;rw[aad,aad];omega) ace))) aa)) (
     ai (fun _=>(bC J J J ((aq.weaken (r4 (a:=(ar (l.drop 1))) (l:=((mG l i).drop 2).take (1+mr (mG l i) 1 4).toNat) (iM.take (iM.drop (iM.drop h64 _) _) _) (by rw[aaa];omega) ace))) aa)) (
     ai (fun _=>(aF J Ta Nh J J J)) (
     trivial)))))))))))))))))
 · exact ai (fun X fl dO dh=>gZ (t:=11) J J J J fl Nh J J (fun t' z h hne=>fz (by rfl) (dO t' z h) hne) J aa) (ai (fun X fl dO dh=>cr J (cq (u:=11) (v:=64) (id:=11) J J fl UI ((dh 11 acg).trans J) J ((dh 64 acg).trans J) J acg J J (fun t' z h=>cO (by rfl) (dO t' z h)) J aa)) (trivial))
 refine bO (n:=0) acf ?_
 refine bg acf ?_
 refine jl [3] [0,3,5,6,7,8,11] [3,7,11] ?_
 refine oP J (aC (aM J pS l8 J (ZZ J)) J) ?_
 refine wA [4] [0,3,5,6,7,8,11,66,68,70] [3,7,11] ?_
 refine oN J J J J J (oX (x:=(mo (ar (l.drop 1)).length l i)) hgs (by have:(mo (ar (l.drop 1)).length l i).lemma_.length≤12:=E4;omega)) ?_
 refine wS [3013] [0,3,5,6,7,8,11,75] [3,7,11] ?_ ?_<;>intro h4
 refine wZ [4,5000] ?_
 refine oS J (step_append J J J J Tryz.underlying30 PQ J J aa (cZ J (cw (by rfl))) (by simp only[Z0,aaY];omega) (by simp only[Z0,aaY];omega)) J ?_
 refine wA [6,9002] [0,3,5,6,7,8] [3,7] ?_;rotate_left
 refine wA [6,9002] [0,3,5,6,7,8] [3,7] ?_;rotate_left
 refine wA [7] [3,5,6,7] [3,7] ?_
 refine aS 83 [(3,_),(5,_),(6,_),(7,_)] [(3,_)] aa J ⟨.inl J,.inl J,.inl J,.inr ⟨_,_,rfl,rfl,rfl⟩,trivial⟩ ⟨rfl,trivial⟩ ?_
 refine gS [0] [3,5,6,7] [3] ?_
 refine bw (n:=83) 1 (fun p=>[4].getD p 0) (fun p=>[[(3,.box 29 [vvv,vvv,vvv,vvv])],[(3,.box 29 [vvw (.sl ((gG (ar (l.drop 1)).length l).sets.map jJ)),vvw (.sl ((gG (ar (l.drop 1)).length l).rules.map bm)),vvw (.sl ((gG (ar (l.drop 1)).length l).classes.map bT)),vvw (strs (gG (ar (l.drop 1)).length l).order)])]].getD p []) 5 [(0,none),(1,none),(2,none),(3,none)] [(80,vvw (ah (ar (l.drop 1)))),(81,vvw (df (gG (ar (l.drop 1)).length l))),(82,vvw (.sl ((fI (ar (l.drop 1)).length l i).map dm))),(2,vvw (ah (ar (l.drop 1)))),(3,.pbox 3 0),(5,vvw (ah (ar (l.drop 1)))),(6,vvw (iF (gG (ar (l.drop 1)).length l))),(7,vvw (.sl ((fI (ar (l.drop 1)).length l i).map dm)))] mixed acf acf acf acf acf ?_ (fun t d h=>h) J ?_ ?_ ?_
 · rfl
 · exact
     ai (fun _=>(af J J)) (
     ai (fun _=>(aC (aM J pS l8 J (ZZ J)) J)) (
     ai (fun _=>(af J J)) (
     ai (fun _=>(dn J J)) (
     trivial))))
 · exact ai (fun X fl dO dh=>cr J (cq (u:=3) (v:=81) (id:=3) J J fl l8 ((dh 3 acg).trans J) J ((dh 81 acg).trans J) J acg J J (fun t' z h=>cO (by rfl) (dO t' z h)) J aa)) (trivial)
 refine bO (n:=1) acf ?_
 refine xe 5 ?_
 refine bg acf ?_
 refine Cx [2] ?_
 refine lI J J J ?_;rotate_left
 refine wA [14] [3,5,6,7] [3,7] ?_
 refine aS 83 [(3,_),(5,_),(6,_),(7,_)] [(3,_)] aa J ⟨.inl J,.inl J,.inl J,.inr ⟨_,_,rfl,rfl,rfl⟩,trivial⟩ ⟨rfl,trivial⟩ ?_
 refine gS [0] [3,5,6,7] [3] ?_
 refine bw (n:=83) 1 (fun p=>[4].getD p 0) (fun p=>[[(3,.box 29 [vvv,vvv,vvv,vvv])],[(3,.box 29 [vvw (.sl ((gG (ar (l.drop 1)).length l).sets.map jJ)),vvw (.sl ((gG (ar (l.drop 1)).length l).rules.map bm)),vvw (.sl ((gG (ar (l.drop 1)).length l).classes.map bT)),vvw (strs (gG (ar (l.drop 1)).length l).order)])]].getD p []) 5 [(0,none),(1,none),(2,none),(3,none)] [(80,vvw (ah (ar (l.drop 1)))),(81,vvw (df (gG (ar (l.drop 1)).length l))),(82,vvw (.sl ((fI (ar (l.drop 1)).length l i).map dm))),(2,vvw (ah (ar (l.drop 1)))),(3,.pbox 3 0),(5,vvw (ah (ar (l.drop 1)))),(6,vvw (iF (gG (ar (l.drop 1)).length l))),(7,vvw (.sl ((fI (ar (l.drop 1)).length l i).map dm)))] mixed acf acf acf acf acf ?_ (fun t d h=>h) J ?_ ?_ ?_
 · rfl
 · exact
     ai (fun _=>(af J J)) (
     ai (fun _=>(aC (aM J pS l8 J (ZZ J)) J)) (
     ai (fun _=>(af J J)) (
     ai (fun _=>(dn J J)) (
     trivial))))
 · exact ai (fun X fl dO dh=>cr J (cq (u:=3) (v:=81) (id:=3) J J fl l8 ((dh 3 acg).trans J) J ((dh 81 acg).trans J) J acg J J (fun t' z h=>cO (by rfl) (dO t' z h)) J aa)) (trivial)
 refine bO (n:=1) acf ?_
 refine xe 5 ?_
 refine bg acf ?_
 refine Cx [2] ?_
 refine lI J J J ?_;rotate_left
 refine wA [19] [3,5,6,7] [3,7] ?_
 refine aS 83 [(3,_),(5,_),(6,_),(7,_)] [(3,_)] aa J ⟨.inl J,.inl J,.inl J,.inr ⟨_,_,rfl,rfl,rfl⟩,trivial⟩ ⟨rfl,trivial⟩ ?_
 refine gS [0] [3,5,6,7] [3] ?_
 refine bw (n:=83) 1 (fun p=>[4].getD p 0) (fun p=>[[(3,.box 29 [vvv,vvv,vvv,vvv])],[(3,.box 29 [vvw (.sl ((gG (ar (l.drop 1)).length l).sets.map jJ)),vvw (.sl ((gG (ar (l.drop 1)).length l).rules.map bm)),vvw (.sl ((gG (ar (l.drop 1)).length l).classes.map bT)),vvw (strs (gG (ar (l.drop 1)).length l).order)])]].getD p []) 5 [(0,none),(1,none),(2,none),(3,none)] [(80,vvw (ah (ar (l.drop 1)))),(81,vvw (df (gG (ar (l.drop 1)).length l))),(82,vvw (.sl ((fI (ar (l.drop 1)).length l i).map dm))),(2,vvw (ah (ar (l.drop 1)))),(3,.pbox 3 0),(5,vvw (ah (ar (l.drop 1)))),(6,vvw (iF (gG (ar (l.drop 1)).length l))),(7,vvw (.sl ((fI (ar (l.drop 1)).length l i).map dm)))] mixed acf acf acf acf acf ?_ (fun t d h=>h) J ?_ ?_ ?_
 · rfl
 · exact
     ai (fun _=>(af J J)) (
     ai (fun _=>(aC (aM J pS l8 J (ZZ J)) J)) (
     ai (fun _=>(af J J)) (
     ai (fun _=>(dn J J)) (
     trivial))))
 · exact ai (fun X fl dO dh=>cr J (cq (u:=3) (v:=81) (id:=3) J J fl l8 ((dh 3 acg).trans J) J ((dh 81 acg).trans J) J acg J J (fun t' z h=>cO (by rfl) (dO t' z h)) J aa)) (trivial)
 refine bO (n:=1) acf ?_
 refine xe 5 ?_
 refine bg acf ?_
 refine Cx [2] ?_
 refine lI J J J ?_;rotate_left
 all_goals first
  | (
    exact⟨_,⟨i+1,rfl,ace,by first|(rw[E2 ace ach,Z8];rfl)|(rw[Ir ach];rfl)⟩,ace⟩;done)
  | (
    rcases aaq i 12 with hi12|hi12
    · have h5 := uT (A := (ar (l.drop 1)).length) (l := l) (i := i) ace (12 - i)
      rw[show i+(12-i)=12 by omega] at h5
      rw[h5];exact⟨rfl,rfl,rfl⟩
    · rw[show i=12 by omega];exact⟨rfl,rfl,rfl⟩;done)
theorem zg {l:List Int}(hl:l.length≤9223372036854775807)(h64:iM l)(h:¬mr l 0 3=1):aX Tryz.prog 10 [ints l] (.p (.tup [ah aN,df (gG aN.length l),.sl ((fI aN.length l 12).map dm)])):=by
 have hA:3≤aN.length∧aN.length≤10:=by decide
 have hcl:=AT aN.length (l.drop 20)
 have hgs:sk (gG aN.length l):=yI ace _
 refine o0 Wy (ZZ J) fun w0 M0 aa=>?_
 refine c6 [9] [0,3] [3] ?_
 refine oC J J J J (yC) ?_
 refine wA [7] [0,3,5,15] [3] ?_
 refine oC J J J J (iD h64 acg) ?_
 refine oP J (cI (b':=false) (jK J J J) (decide_eq_false h)) ?_
 refine wA [9] [0,3,5,21,22] [3] ?_
 refine oN J J J J J (kx (n:=20) hl ace) ?_
 refine oN J J J J J (tI (a:=aN) (l:=l.drop 20) ace (by rw[aad];omega) (iM.drop h64 20)) ?_
 refine wA [5] [0,3,5,6] [3,6] ?_
 refine aS 83 [(0,_),(3,_),(5,_),(6,_)] [(3,_)] aa J ⟨.inl J,.inl J,.inl J,.inr ⟨_,_,rfl,rfl,rfl⟩,trivial⟩ ⟨rfl,trivial⟩ ?_
 refine gS [1001,9] [0,3,5,6,7,8] [3,7] ?_
 have hcl:0<(gG aN.length l).classes.length∧(gG aN.length l).classes.length≤3:=hcl
 refine lp (fun zm zs=>∃i:Nat,zm=12-i∧(i≤12)∧zs=⟨83,[(0,vvw (ints l)),(3,.pbox 3 0),(5,vvw (ah aN)),(6,vvw (iF (gG aN.length l))),(7,.own 7),(8,vvw (int i))],[(3,.box 29 [vvv,vvv,vvv,vvv]),(7,.arr 72 ((fI aN.length l i).map dm))]⟩) ?_ ?_
 exact⟨_,0,rfl,ace,rfl⟩
 rintro zm zs ⟨i,rfl,aZ,rfl⟩
 have hll:=tJ (A:=aN.length) (l:=l) i
 refine wS [4006] [0,3,5,6,7,8,27] [3,7] ?_ ?_<;>intro h1'
 refine wS [1,4003] [0,3,5,6,7,8,32] [3,7] ?_ ?_<;>intro h2'
 refine wS [2,3004] [0,3,5,6,7,8,37] [3,7] ?_ ?_<;>intro h3
 refine wZ [9,5000] ?_
 refine oP J (dF (a':=((90+7*i:Nat):Int)) (cH J J J ace) ace) ?_
 refine wA [0] [0,3,5,6,7,8,40,43] [3,7] ?_
 refine oN J J J J J (kx (n:=90+7*i) hl ace) ?_
 refine wA [4] [0,3,5,6,7,8,9] [3,7] ?_
 have hat0:=k9 (l:=(mG l i)) (i:=0) (most:=((gG aN.length l).classes.length:Int)) ace
 have hat1:=k9 (l:=(mG l i)) (i:=1) (most:=4) acg
 refine wA [2] [0,3,5,6,7,8,9,45] [3,7] ?_
 refine oC J J J J (iD (l:=(mG l i)) (i:=1) (iM.drop h64 _) acg) ?_
 refine wA [0,4] [0,3,5,6,7,8,9,10] [3,7] ?_
 refine bw (n:=83) 2 (fun p=>[17,18].getD p 0) (fun p=>[[(3,.box 29 [vvv,vvv,vvv,vvv]),(7,.arr 72 ((fI aN.length l i).map dm))],[(3,.box 29 [vvv,vvv,vvv,vvv]),(7,.arr 72 ((fI aN.length l i).map dm)),(11,.box 72 [vvv,vvw (.sc (.string ⟨#[]⟩))])],[(3,.box 29 [vvv,vvv,vvv,vvv]),(7,.arr 72 ((fI aN.length l i).map dm)),(11,.box 72 [vvw (ints (mo aN.length l i).lemma_),vvw (aj (mo aN.length l i).class_)])]].getD p []) 19 [(0,none),(1,none),(2,none),(3,none),(4,none),(5,none),(6,none),(7,none),(8,none),(9,none),(10,none),(11,none),(12,none),(13,none),(14,none),(15,none),(16,none)] [(48,vvw (.pc (rj (gG aN.length l)) 2)),(49,vvw (.sl ((gG aN.length l).classes.map bT))),(50,vvw (ints (mG l i))),(51,vvw (.pc (rj (gG aN.length l)) 2)),(52,vvw (.sl ((gG aN.length l).classes.map bT))),(53,vvw (int (gG aN.length l).classes.length)),(54,vvw (int (mr (mG l i) 0 (gG aN.length l).classes.length))),(55,vvw (.pc (oM ((gG aN.length l).classes.getD (mr (mG l i) 0 (gG aN.length l).classes.length).toNat default)) 0)),(56,vvw (.pc (oM ((gG aN.length l).classes.getD (mr (mG l i) 0 (gG aN.length l).classes.length).toNat default)) 0)),(57,vvw (aj (mo aN.length l i).class_)),(58,vvw (ah aN)),(59,vvw (ints (mG l i))),(60,vvw (ints ((mG l i).drop 2))),(61,vvw (int (1+mr (mG l i) 1 4))),(62,vvw (ints (((mG l i).drop 2).take (1+mr (mG l i) 1 4).toNat))),(63,vvw (ints (mo aN.length l i).lemma_)),(64,vvw (dm (mo aN.length l i))),(11,.pbox 11 0),(0,vvw (ints l)),(3,.pbox 3 0),(5,vvw (ah aN)),(6,vvw (iF (gG aN.length l))),(7,.own 7),(8,vvw (int i)),(9,vvw (ints (mG l i))),(10,vvw (int (1+mr (mG l i) 1 4)))] mixed acf acf acf acf acf ?_ (fun t d h=>h) J ?_ ?_ ?_
 · rfl
 · exact
     ai (fun _=>(b9 J BQ J)) (
     ai (fun _=>(cA J PN J J)) (
     ai (fun _=>(af J J)) (
     ai (fun _=>(b9 J BQ J)) (
     ai (fun _=>(cA J PN J J)) (
     ai (fun _=>(gy J Tryz.underlying26 J)) (
     ai (fun _=>(bC J J J (iD (l:=(mG l i)) (i:=0) (iM.drop h64 _) ace) aa)) (
     ai (fun _=>(j2 (f:=bT) (l:=(gG aN.length l).classes) (i:=(mr (mG l i) 0 (gG aN.length l).classes.length).toNat) (z:=(gG aN.length l).classes.getD (mr (mG l i) 0 (gG aN.length l).classes.length).toNat default) J J Tryz.underlying26 JF J J ace (fun _=>rfl))) (
     ai (fun _=>(b9 J Nj J)) (
     ai (fun _=>(cA J Uy J J)) (
     ai (fun _=>(af J J)) (
     ai (fun _=>(af J J)) (
     ai (fun _=>(bG J J J J (kx (l:=(mG l i)) (n:=2) (by unfold mG;rw[aad];omega) ace) aa)) (
     ai (fun _=>(af J J)) (
     ai (fun _=>(bC J J J ((aq.weaken (AR (l:=(mG l i).drop 2) (n:=(1+mr (mG l i) 1 4)) (by unfold mG;rw[aad,aad];omega) ace))) aa)) (
     ai (fun _=>(bC J J J ((aq.weaken (r4 (a:=aN) (l:=((mG l i).drop 2).take (1+mr (mG l i) 1 4).toNat) (iM.take (iM.drop (iM.drop h64 _) _) _) (by rw[aaa];omega) ace))) aa)) (
     ai (fun _=>(aF J Ta Nh J J J)) (
     trivial)))))))))))))))))
 · exact ai (fun X fl dO dh=>gZ (t:=11) J J J J fl Nh J J (fun t' z h hne=>fz (by rfl) (dO t' z h) hne) J aa) (ai (fun X fl dO dh=>cr J (cq (u:=11) (v:=64) (id:=11) J J fl UI ((dh 11 acg).trans J) J ((dh 64 acg).trans J) J acg J J (fun t' z h=>cO (by rfl) (dO t' z h)) J aa)) (trivial))
 refine bO (n:=0) acf ?_
 refine bg acf ?_
 refine jl [3] [0,3,5,6,7,8,11] [3,7,11] ?_
 refine oP J (aC (aM J pS l8 J (ZZ J)) J) ?_
 refine wA [4] [0,3,5,6,7,8,11,66,68,70] [3,7,11] ?_
 refine oN J J J J J (oX (x:=(mo aN.length l i)) hgs (by have:(mo aN.length l i).lemma_.length≤12:=E4;omega)) ?_
 refine wS [3013] [0,3,5,6,7,8,11,75] [3,7,11] ?_ ?_<;>intro h4
 refine wZ [4,5000] ?_
 refine oS J (step_append J J J J Tryz.underlying30 PQ J J aa (cZ J (cw (by rfl))) (by simp only[Z0,aaY];omega) (by simp only[Z0,aaY];omega)) J ?_
 refine wA [6,9002] [0,3,5,6,7,8] [3,7] ?_;rotate_left
 refine wA [6,9002] [0,3,5,6,7,8] [3,7] ?_;rotate_left
 refine wA [7] [3,5,6,7] [3,7] ?_
 refine aS 83 [(3,_),(5,_),(6,_),(7,_)] [(3,_)] aa J ⟨.inl J,.inl J,.inl J,.inr ⟨_,_,rfl,rfl,rfl⟩,trivial⟩ ⟨rfl,trivial⟩ ?_
 refine gS [0] [3,5,6,7] [3] ?_
 refine bw (n:=83) 1 (fun p=>[4].getD p 0) (fun p=>[[(3,.box 29 [vvv,vvv,vvv,vvv])],[(3,.box 29 [vvw (.sl ((gG aN.length l).sets.map jJ)),vvw (.sl ((gG aN.length l).rules.map bm)),vvw (.sl ((gG aN.length l).classes.map bT)),vvw (strs (gG aN.length l).order)])]].getD p []) 5 [(0,none),(1,none),(2,none),(3,none)] [(80,vvw (ah aN)),(81,vvw (df (gG aN.length l))),(82,vvw (.sl ((fI aN.length l i).map dm))),(2,vvw (ah aN)),(3,.pbox 3 0),(5,vvw (ah aN)),(6,vvw (iF (gG aN.length l))),(7,vvw (.sl ((fI aN.length l i).map dm)))] mixed acf acf acf acf acf ?_ (fun t d h=>h) J ?_ ?_ ?_
 · rfl
 · exact
     ai (fun _=>(af J J)) (
     ai (fun _=>(aC (aM J pS l8 J (ZZ J)) J)) (
     ai (fun _=>(af J J)) (
     ai (fun _=>(dn J J)) (
     trivial))))
 · exact ai (fun X fl dO dh=>cr J (cq (u:=3) (v:=81) (id:=3) J J fl l8 ((dh 3 acg).trans J) J ((dh 81 acg).trans J) J acg J J (fun t' z h=>cO (by rfl) (dO t' z h)) J aa)) (trivial)
 refine bO (n:=1) acf ?_
 refine xe 5 ?_
 refine bg acf ?_
 refine Cx [2] ?_
 refine lI J J J ?_;rotate_left
 refine wA [14] [3,5,6,7] [3,7] ?_
 refine aS 83 [(3,_),(5,_),(6,_),(7,_)] [(3,_)] aa J ⟨.inl J,.inl J,.inl J,.inr ⟨_,_,rfl,rfl,rfl⟩,trivial⟩ ⟨rfl,trivial⟩ ?_
 refine gS [0] [3,5,6,7] [3] ?_
 refine bw (n:=83) 1 (fun p=>[4].getD p 0) (fun p=>[[(3,.box 29 [vvv,vvv,vvv,vvv])],[(3,.box 29 [vvw (.sl ((gG aN.length l).sets.map jJ)),vvw (.sl ((gG aN.length l).rules.map bm)),vvw (.sl ((gG aN.length l).classes.map bT)),vvw (strs (gG aN.length l).order)])]].getD p []) 5 [(0,none),(1,none),(2,none),(3,none)] [(80,vvw (ah aN)),(81,vvw (df (gG aN.length l))),(82,vvw (.sl ((fI aN.length l i).map dm))),(2,vvw (ah aN)),(3,.pbox 3 0),(5,vvw (ah aN)),(6,vvw (iF (gG aN.length l))),(7,vvw (.sl ((fI aN.length l i).map dm)))] mixed acf acf acf acf acf ?_ (fun t d h=>h) J ?_ ?_ ?_
 · rfl
 · exact
     ai (fun _=>(af J J)) (
     ai (fun _=>(aC (aM J pS l8 J (ZZ J)) J)) (
     ai (fun _=>(af J J)) (
     ai (fun _=>(dn J J)) (
     trivial))))
 · exact ai (fun X fl dO dh=>cr J (cq (u:=3) (v:=81) (id:=3) J J fl l8 ((dh 3 acg).trans J) J ((dh 81 acg).trans J) J acg J J (fun t' z h=>cO (by rfl) (dO t' z h)) J aa)) (trivial)
 refine bO (n:=1) acf ?_
 refine xe 5 ?_
 refine bg acf ?_
 refine Cx [2] ?_
 refine lI J J J ?_;rotate_left
 refine wA [19] [3,5,6,7] [3,7] ?_
 refine aS 83 [(3,_),(5,_),(6,_),(7,_)] [(3,_)] aa J ⟨.inl J,.inl J,.inl J,.inr ⟨_,_,rfl,rfl,rfl⟩,trivial⟩ ⟨rfl,trivial⟩ ?_
 refine gS [0] [3,5,6,7] [3] ?_
 refine bw (n:=83) 1 (fun p=>[4].getD p 0) (fun p=>[[(3,.box 29 [vvv,vvv,vvv,vvv])],[(3,.box 29 [vvw (.sl ((gG aN.length l).sets.map jJ)),vvw (.sl ((gG aN.length l).rules.map bm)),vvw (.sl ((gG aN.length l).classes.map bT)),vvw (strs (gG aN.length l).order)])]].getD p []) 5 [(0,none),(1,none),(2,none),(3,none)] [(80,vvw (ah aN)),(81,vvw (df (gG aN.length l))),(82,vvw (.sl ((fI aN.length l i).map dm))),(2,vvw (ah aN)),(3,.pbox 3 0),(5,vvw (ah aN)),(6,vvw (iF (gG aN.length l))),(7,vvw (.sl ((fI aN.length l i).map dm)))] mixed acf acf acf acf acf ?_ (fun t d h=>h) J ?_ ?_ ?_
 · rfl
 · exact
     ai (fun _=>(af J J)) (
     ai (fun _=>(aC (aM J pS l8 J (ZZ J)) J)) (
     ai (fun _=>(af J J)) (
     ai (fun _=>(dn J J)) (
     trivial))))
 · exact ai (fun X fl dO dh=>cr J (cq (u:=3) (v:=81) (id:=3) J J fl l8 ((dh 3 acg).trans J) J ((dh 81 acg).trans J) J acg J J (fun t' z h=>cO (by rfl) (dO t' z h)) J aa)) (trivial)
 refine bO (n:=1) acf ?_
 refine xe 5 ?_
 refine bg acf ?_
 refine Cx [2] ?_
 refine lI J J J ?_;rotate_left
 all_goals first
  | (
    exact⟨_,⟨i+1,rfl,ace,by first|(rw[E2 ace ach,Z8];rfl)|(rw[Ir ach];rfl)⟩,ace⟩;done)
  | (
    rcases aaq i 12 with hi12|hi12
    · have h5 := uT (A := aN.length) (l := l) (i := i) ace (12 - i)
      rw[show i+(12-i)=12 by omega] at h5
      rw[h5];exact⟨rfl,rfl,rfl⟩
    · rw[show i=12 by omega];exact⟨rfl,rfl,rfl⟩;done)
end Go.Proofs.YtlapahnodhmcpaaGreat
namespace Go.Wf
open Go.Am Go.Wb Go.Wc
abbrev OH:aI:=⟨[],[],[⟨[110],.mk 5 [] [.mk 2 [0,1,2,3,4,5,6] []],0,[⟨[115,103],[],[],[]⟩,⟨[112,108],[],[5],[]⟩]⟩],[]⟩
abbrev Kr:List dY:=[⟨[2,0,6],[110]⟩,⟨[2,0,6,5],[110]⟩]
abbrev WQ:List dY:=[⟨[2,0,6,5],[110]⟩,⟨[2,0,6,5],[118]⟩]
abbrev Is:List (List aY):=aT OH Kr
abbrev Zg:List mh:=[⟨0,⟨[112,108],[2,0,6,5],[3],[]⟩⟩,⟨1,⟨[115,103],[2,0,6,5],[],[]⟩⟩]
theorem Oz:sk OH:=by
 refine⟨by decide,(fun r hr=>by cases hr),by decide,fun c hc=>?_,by decide⟩
 rw[aag.1 hc]
 refine⟨by decide,fun x hx=>?_,by decide +kernel,by decide +kernel⟩
 simp only[aah,abU,or_false] at hx
 rcases hx with rfl|rfl<;>exact⟨by decide,by decide,by decide⟩
theorem Wz:ni OH Kr=0:=by decide +kernel
theorem WA:uL OH Kr=0:=by decide +kernel
theorem RX:ni OH WQ=6:=by decide +kernel
theorem WB:uL OH WQ=1:=by decide +kernel
theorem TK:j8 Is [2,0,6,5]=Zg:=by rw[GS (sd _ _)];decide +kernel
theorem QL:cJ (j8 Is [2,0,6,5]) (j8 Is [2,0,6,5]).length=[]:=by rw[Iq (sd _ _)];decide +kernel
theorem TL:(QG Is).length=3:=by rw[TJ];decide +kernel
theorem TM:(Qy Is 1).length=2:=by decide +kernel
theorem It:vC Is:=yx Oz acg
def eK (A:Nat)(F:List (List aY))(m:List Int):List (List Int):=[rp A m,[],[63],[-1]]++(Cp F).take 20
theorem Ks {l:List (List Int)}{i:Nat}(h:i≤l.length)(h2:i≤20)(h3:¬(i<l.length∧i<20)):l.take 20=l.take i:=by
 rcases aaq i 20 with h4|h4
 ·rw[aaj ace,aaj ace]
 ·rw[show i=20 by omega]
end Go.Wf
namespace Go.Proofs.YtlapahnodhmcpaaGreat
open Go.Am Go.Wb Go.Wc Go.Wf Go.We
theorem Cs {l:List Int}(hl:l.length≤9223372036854775807)(h64:iM l):aX Tryz.prog 10 [ints l] (.p (.tup [ah (mn l),df (gG (mn l).length l),.sl ((fI (mn l).length l 12).map dm)])):=by
 by_cases h:mr l 0 3=1
 ·rw[show mn l=ar (l.drop 1) from if_pos h];exact zf hl h64 h
 ·rw[show mn l=aN from if_neg h];exact zg hl h64 h
theorem QM:aX Tryz.prog 12 [df OH,.sl (Kr.map dm)] (.p (.tup [tK Kr Is,int 0,int 0])):=by
 have:=AO (g:=OH) (l:=Kr) Oz acg acg Wz
 rwa [WA] at this
theorem QN:aX Tryz.prog 12 [df OH,.sl (WQ.map dm)] (.p (.tup [.sc (.pointer none),int 1,int 6])):=by
 have:=Kg (g:=OH) (l:=WQ) Oz acg acg (by rw[RX];decide)
 rwa [WB,RX] at this
theorem GX:aX Tryz.prog 22 [tK Kr Is,ints [2,0,6,5]] (.p (.sl (Zg.map o7))):=by
 have:=tF (l:=Kr) (F:=Is) (w:=[2,0,6,5]) It acg
 rwa [TK] at this
theorem OA:aX Tryz.prog 25 [tK Kr Is,ints [2,0,6,5]] (.p (ints [])):=by
 have:=AQ (l:=Kr) (F:=Is) (w:=[2,0,6,5]) It acg
 rwa [QL] at this
abbrev YS:=dU 0 Tryz.func19
theorem Ct:aq Tryz.prog 19 [] (.p (bool true)):=by
 refine cF YS fun w0 M0 aa=>?_
 refine zM [7,5000] ?_
 refine oP J (aC (aF J Ga oI J J J) J) ?_
 refine wZ [0,5000] ?_
 refine oP J (aC (aF J Ga oI J J J) J) ?_
 refine wA [7] [15] [] ?_
 refine oP J (aC (aF J xZ xY J J J) J) ?_
 refine wA [0,0] [15,16,17] [] ?_
 refine oP J (aC (aF J xZ xY J J J) J) ?_
 refine wA [0,0] [15,19] [] ?_
 refine oP J (aC (aF J PU Ni J J J) J) ?_
 refine wA [0,0] [21] [] ?_
 refine oP J (aC (aF J XA Xz J J J) J) ?_
 refine wZ [6,6,3,5000] ?_
 refine oN J J J J J (QM) ?_
 refine wZ [16,5000] ?_
 refine oN J J J J J (QN) ?_
 refine wA [13] [3,4,6,8,9,46] [] ?_
 refine oP J (cI (b':=false) (q7 J Tryz.underlying35 J J) (rfl)) ?_
 refine wA [2] [3,4,8,9,48,49] [] ?_
 refine oP J (cI (b':=false) (gU J J J) (rfl)) ?_
 refine wA [3] [3,4,9,52,53] [] ?_
 refine oP J (cI (b':=false) (gU J J J) (rfl)) ?_
 refine wA [3] [3,4,56,57] [] ?_
 refine oP J (cI (b':=false) (jK J J J) (rfl)) ?_
 refine wA [10] [3,4,60,61] [] ?_
 refine oN J J J J J (GX) ?_
 refine wZ [7,5000] ?_
 refine oP J (cI (b':=false) (gU J J J) (rfl)) ?_
 refine wA [2] [3,4,10,66,67] [] ?_
 refine oP J (ee J Tryz.underlying55 JC J J acg (fun _=>rfl)) ?_
 refine wA [2] [3,4,10,66,70] [] ?_
 refine oP J (cI (b':=false) (gU J J J) (rfl)) ?_
 refine wA [3] [3,4,10,73,74] [] ?_
 refine oP J (ee J Tryz.underlying55 JC J J acg (fun _=>rfl)) ?_
 refine wA [3] [3,4,10,73,78] [] ?_
 refine oP J (cI (b':=false) (tM J J J) acg) ?_
 refine wA [3] [3,4,10,81,82] [] ?_
 refine oP J (ee J Tryz.underlying55 JC J J acg (fun _=>rfl)) ?_
 refine wA [2] [3,4,10,81,85] [] ?_
 refine oP J (cI (b':=false) (gU J J J) (rfl)) ?_
 refine wA [3] [3,4,10,88,89] [] ?_
 refine oP J (ee J Tryz.underlying55 JC J J acg (fun _=>rfl)) ?_
 refine wA [3] [3,4,10,88,93] [] ?_
 refine oP J (cI (b':=false) (tM J J J) acg) ?_
 refine wA [9] [3,4,10,96] [] ?_
 refine oN J J J J J (Kf (l:=Kr) (F:=Is) acg) ?_
 refine oP J (cI (b':=true) (jK J J J) acg) ?_
 refine wA [2] [3,4,10,99,100] [] ?_
 refine oP J (ee J Tryz.underlying55 JC J J acg (fun _=>rfl)) ?_
 refine wZ [3,5000] ?_
 refine oP J (lP (b':=true) J J J (ju (a:=[3]) (b:=[3]) acg acg) aa acg) ?_
 refine wA [3] [3,4,108,109] [] ?_
 refine oP J (ee J Tryz.underlying55 JC J J acg (fun _=>rfl)) ?_
 refine wZ [3,5000] ?_
 refine oP J (cI (b':=true) (jK J J J) acg) ?_
 refine wA [4] [4,117,118,119] [] ?_
 refine oN J J J J J (OA) ?_
 refine wA [0,0] [4,117,121] [] ?_
 refine oP J (cI (b':=true) (jK J J J) acg) ?_
 refine wA [3] [4,124,125] [] ?_
 refine oN J J J J J (ES (l:=Kr) (F:=Is) It) ?_
 refine wA [0,0] [4,124,127] [] ?_
 refine oP J (cI (b':=true) (jK J J J) (by rw[TL];rfl)) ?_
 refine wA [3] [130,131] [] ?_
 refine oN J J J J J (za (l:=Kr) (F:=Is) (i:=1) It) ?_
 refine wA [0,0] [130,133] [] ?_
 refine oP J (cI (b':=true) (jK J J J) (by rw[TM];rfl)) ?_
 refine wZ [8005] ?_
 rfl
abbrev YT:=dU 6 Tryz.func20
theorem GY {a:List cQ}{y:uG}{m:List Int}(ha:0<a.length∧a.length≤1000)(hF:vC y.f)(hm:m.length≤9223372036854775807)(h64:iM m):aX Tryz.prog 20 [ah a,J6 y,ints m] (.p (my (eK a.length y.f m))):=by
 refine cN YT fun w0 M0 aa=>?_
 refine c6 [2,5] [0,2,4] [] ?_
 refine oP J (aC (aM J Nd Nc J (ZZ J)) J) ?_
 refine oN J J J J J (Ke hF) ?_
 refine wA [7] [7,12,13] [] ?_
 refine oP J (bC J J J ((aq.weaken (r4 h64 hm ha))) aa) ?_
 refine wA [0,0,1000,10] [7,8,9] [17] ?_
 refine lp (fun zm zs=>∃i:Nat,zm=20-i∧(i≤(Cp y.f).length)∧(i≤20)∧zs=⟨36,[(7,vvw (my (Cp y.f))),(8,.own 17),(9,vvw (int i))],[(17,.arr 22 (([rp a.length m,[],[63],[-1]]++(Cp y.f).take i).map ints))]⟩) ?_ ?_
 exact⟨_,0,rfl,Z5 _,Z5 _,rfl⟩
 rintro zm zs ⟨i,rfl,aZ,au,rfl⟩
 have hlr:((Cp y.f).take i).length=i:=by rw[aaa];omega
 refine wS [5,4002] [7,8,9,22] [17] ?_ ?_<;>intro h1'
 refine wS [3005] [7,8,9,25] [17] ?_ ?_<;>intro h2
 refine wA [9,1,1000,6,9002] [7,8,9] [17] ?_
 exact⟨_,⟨i+1,rfl,ace,ace,by rw[take_succ ace,Z8,Z8,Z8,aaI];rfl⟩,ace⟩
 refine wA [7] [8] [17] ?_
 refine aS 36 [(8,_)] [] aa J ⟨.inr ⟨_,_,rfl,rfl,rfl⟩,trivial⟩ trivial ?_
 refine Cw [8006] ?_;rotate_left
 refine wA [12] [8] [17] ?_
 refine aS 36 [(8,_)] [] aa J ⟨.inr ⟨_,_,rfl,rfl,rfl⟩,trivial⟩ trivial ?_
 refine Cw [8006] ?_;rotate_left
 all_goals
  unfold eK;rw[Ks (l:=Cp y.f) (i:=i) ace ace ace]
end Go.Proofs.YtlapahnodhmcpaaGreat
namespace Go.Am
theorem aX.ZT {P:Program}{f:FuncId}{ds:List AV}{v:Value}(h:aX P f ds (.p (.sc v))):aq P f ds (.p (.sc v)) :=
 ⟨h.1, fun w vs hv hr => (h.2 w (fun _ => False) vs (fun b hb => hb.elim) hv hr).mono fun e w' ⟨z, he, hb, hrv⟩ => ⟨z, he, hb, by
  have h1:bJ w' (fun _=>False) z (.sc v):=hrv
  cases h1 with
  | sc _ h2=>exact bJ.sc _ h2⟩⟩
end Go.Am
namespace Go.Wf
open Go.Am Go.Wb Go.Wc
theorem TN {g:aI}{l:List dY}(h:l.length≤64)(hz:∀x∈l,cV g x.class_ x.lemma_=0):ni g l=0:=by
 unfold ni
 rw[if_neg ace,Cn fun j hj=>decide_eq_true (hz _ (ba hj))]
structure qf (g:aI)(L:List dY):Prop where
 gs:sk g
 n:L.length≤5
 w:∀x∈L,x.lemma_.length≤12
 e:∀x∈L,cV g x.class_ x.lemma_=0
theorem WC (l:List Int):qf (gG (mn l).length l) (fI (mn l).length l 12):=by
 have:=yJ l
 exact⟨yI ace _,tJ _,fun x hx=>(wy hx).2,fun x hx=>(wy hx).1⟩
variable {g:aI} {L:List dY}
theorem qf.new (h:qf g L):ni g L=0:=TN (by have:=h.n;omega) h.e
theorem qf.f (h:qf g L):vC (aT g L):=yx h.gs (by have:=h.n;omega)
theorem qf.w' (h:qf g L):∀x∈L,x.lemma_.length≤1048576:=fun x hx=>aau (h.w x hx) acg
theorem qf.n' (h:qf g L):L.length≤1048576:=aau h.n acg
theorem E5 {F:List (List aY)}(hF:vC F)(w:List Int):(jx F w).length≤1001000:=aau (Co _ _ _ _) (mV hF (Z1 _) ace)
theorem Iu {F:List (List aY)}(hF:vC F)(w:List Int):∀x∈jx F w,J5 x.form:=fun x hx=>by
 obtain⟨p,_,rfl,_⟩:=EV hx
 exact eQ hF p
theorem AU (F:List (List aY))(w:List Int):(tE F w).length≤w.length+1:=by
 unfold tE;split
 ·exact Z5 _
 ·exact yz _ _
theorem Kt {F:List (List aY)}(hF:vC F)(A:Nat)(m:List Int):(eK A F m).length≤24∧∀x∈eK A F m,x.length≤1048576:=by
 unfold eK
 refine⟨by rw[aab,aaa];show 4+_≤_;omega,fun x hx=>?_⟩
 rcases aaC.1 hx with hx|hx
 ·simp only[aah,abU,or_false] at hx
  rcases hx with rfl|rfl|rfl|rfl
  ·unfold rp;rw[Z0,aaa];omega
  ·exact Z5 _
  ·exact(by decide:1≤1048576)
  ·exact(by decide:1≤1048576)
 ·exact N1 hF _ _ x (aa6 hx)
end Go.Wf
namespace Go.Proofs.YtlapahnodhmcpaaGreat
open Go.Am Go.Wb Go.Wc Go.Wf Go.We
theorem zh {l:List dY}{F:List (List aY)}{w:List Int}(hF:vC F)(hG:vE F)(hw:w.length≤1048576):aX Tryz.prog 22 [tK l F,ints w] (.p (.sl ((jx F w).map o7))):=by
 have:=tF (l:=l) hF hw
 rwa [GS hG] at this
theorem GZ {l:List dY}{F:List (List aY)}{w:List Int}(hF:vC F)(hG:vE F)(hw:w.length≤1048576):aX Tryz.prog 25 [tK l F,ints w] (.p (ints (tE F w))):=by
 have:=AQ (l:=l) hF hw
 rwa [Iq hG] at this
theorem Ku {g:aI}{L:List dY}(h:qf g L):aX Tryz.prog 12 [df g,.sl (L.map dm)] (.p (.tup [tK L (aT g L),int (uL g L),int 0])):=AO h.gs h.n' h.w' h.new
theorem G0 {g:aI}{L:List dY}(h:qf g L):aX Tryz.prog 13 [df g,.sl (L.map dm)] (.p (.tup [J6 ⟨g,L,aT g L⟩,int (uL g L),int 0])):=by
 have:=Kd h.gs h.n' h.w'
 rwa [Im h.new,h.new] at this
abbrev ZU:=dU 4 Tryz.func4
theorem Cu {l m:List Int}(hl:iM l)(hll:l.length≤9223372036854775807)(hm:iM m)(hml:m.length≤9223372036854775807):aq Tryz.prog 4 [ints l,ints m] (.p (bool true)):=by
 have hlex:=Cs hll hl
 have hok:=WC l
 have haa:=yJ l
 generalize mn l=a at hlex hok haa
 generalize gG a.length l=g at hlex hok
 generalize fI a.length l 12=L at hlex hok
 have hn:=Ku hok
 have hr:=G0 hok
 have hF:=hok.f
 have hG:=sd g L
 generalize aT g L=F at hn hr hF hG
 obtain⟨hwl,hwb⟩:=Kt hF a.length m
 refine aX.ZT (cN ZU fun w0 M0 aa=>?_)
 refine c6 [8] [1,17] [] ?_
 refine oN J J J J J (hlex) ?_
 refine wA [11] [1,5,6,7] [6] ?_
 refine aS 83 [(1,_),(5,_),(6,_),(7,_)] [] aa J ⟨.inl J,.inl J,.inr ⟨_,_,rfl,rfl,rfl⟩,.inl J,trivial⟩ trivial ?_
 refine gS [1] [1,5,6,7] [] ?_
 refine oP J (aC (aM J pS l8 J (ZZ J)) J) ?_
 refine wA [1] [1,5,6,7,23,24] [] ?_
 refine oN J J J J J (hn) ?_
 refine wA [11] [1,5,6,7,8,10] [] ?_
 refine oP J (aC (aM J pS l8 J (ZZ J)) J) ?_
 refine wA [1] [1,5,8,10,30,31] [] ?_
 refine oN J J J J J (hr) ?_
 refine wA [12] [1,5,8,10,11] [11] ?_
 refine aS 83 [(1,_),(5,_),(8,_),(10,_),(11,_)] [] aa J ⟨.inl J,.inl J,.inl J,.inl J,.inr ⟨_,_,rfl,rfl,rfl⟩,trivial⟩ trivial ?_
 refine gS [2] [1,5,8,10,11,36] [] ?_
 refine oP J (cI (b':=false) (q7 J Tryz.underlying35 J J) (rfl)) ?_
 refine wA [2] [1,5,8,11,38,39] [] ?_
 refine oP J (cI (b':=false) (gU J J J) (rfl)) ?_
 refine wA [9] [1,8,11,42] [] ?_
 refine oP J (aC (aM J Nd Nc J (ZZ J)) J) ?_
 refine wA [1] [8,11,42,43,44] [] ?_
 refine oN J J J J J (GY (y:=(⟨g,L,F⟩:uG)) ace hF hml hm) ?_
 refine wA [10] [8,11,14,15] [] ?_
 refine lp (fun zm zs=>∃i:Nat,zm=(eK a.length F m).length-i∧(i≤(eK a.length F m).length)∧zs=⟨83,[(8,vvw (tK L F)),(11,vvw (NL (⟨g,L,F⟩:uG))),(14,vvw (my (eK a.length F m))),(15,vvw (int i))],[]⟩) ?_ ?_
 exact⟨_,0,rfl,Z5 _,rfl⟩
 rintro zm zs ⟨i,rfl,aZ,rfl⟩
 refine wS [5,3003] [8,11,14,15,49] [] ?_ ?_<;>intro h1
 refine wA [2006,6003,1] [8,11,14,15,52,56] [] ?_
 refine oF J J J J J J J (zh hF hG (by have:=hwb _ (ba (show i<(eK a.length F m).length by omega));omega)) ?_
 refine oD J J J (aC (aM J Nd Nc J (ZZ J)) J) ?_
 refine wA [6002,1] [8,11,14,15,57,58,62] [] ?_
 refine oF J J J J J J J (ru (m:=(⟨g,L,F⟩:uG)) hF (by have:=hwb _ (ba (show i<(eK a.length F m).length by omega));omega)) ?_
 refine oD J J J (lP (b':=true) J J J (Cq (a:=jx F ((eK a.length F m).getD i default)) (b:=jx F ((eK a.length F m).getD i default)) (by have:=E5 hF ((eK a.length F m).getD i default);omega) (by have:=E5 hF ((eK a.length F m).getD i default);omega) (Iu hF _) (Iu hF _)) aa (decide_eq_true J)) ?_
 refine oD J J J (cI (b':=false) (sC J J) (rfl)) ?_
 refine wA [6004,1] [8,11,14,15,66,67,71] [] ?_
 refine oF J J J J J J J (GZ hF hG (by have:=hwb _ (ba (show i<(eK a.length F m).length by omega));omega)) ?_
 refine oD J J J (aC (aM J Nd Nc J (ZZ J)) J) ?_
 refine wA [6002,1] [8,11,14,15,66,72,73,77] [] ?_
 refine oF J J J J J J J (GM (m:=(⟨g,L,F⟩:uG)) hF (by have:=hwb _ (ba (show i<(eK a.length F m).length by omega));omega)) ?_
 refine oD J J J (lP (b':=true) J J J (ju (a:=tE F ((eK a.length F m).getD i default)) (b:=tE F ((eK a.length F m).getD i default)) (by have:=AU F ((eK a.length F m).getD i default);have:=hwb _ (ba (show i<(eK a.length F m).length by omega));omega) (by have:=AU F ((eK a.length F m).getD i default);have:=hwb _ (ba (show i<(eK a.length F m).length by omega));omega)) aa (decide_eq_true J)) ?_
 refine oD J J J (cI (b':=false) (sC J J) (rfl)) ?_
 refine wA [9,9002] [8,11,14,15] [] ?_
 exact⟨_,⟨i+1,rfl,ace,rfl⟩,ace⟩
 refine wZ [8] ?_
 refine oC J J J J (Ct) ?_
 refine wZ [8004] ?_
 rfl
namespace morphAnalyses
open Go.ChangeShapes Go.WideShapes Go.ChangeAt Go.RowKit Go.Am
theorem own:ownKnob Tryz.prog.godebug=none:=acf
theorem lifted (os:Os)(started:os.Started)(H:Type)(enc:TypeId×Value→H) :
  ReturnsInHanded {} Tryz.checked os 4 .any (Rows.morphAnalysesSpec.pre6 enc Tryz.prog Tryz.f4 Rows.morphAnalysesRow.domain false) (Rows.morphAnalysesSpec.post enc Tryz.prog Tryz.f4 false true false false):=by
 refine returnsInHanded_of_change (C:=Tryz.checked) own started acf Tryz.func4
  (ChangeSpec.witness6 (enc:=enc) (C:=Tryz.checked) false ⟨#[],#[.slice none 0 0,.slice none 0 0],[]⟩ 8 acf acf acf acf) ?_
 intro W base args ds gs before hval0 hW hcnd _
 have hval:∀(j:Nat) t v,Tryz.f4.params[j]?=some t→args[j]?=some v→Value.okWide Tryz.prog W .any base t v:=hval0
 have hW':=hW
 obtain⟨p,q,ZV,hV,rfl,hfz,hnd⟩:=hW
 have hA:DataW.TrodAll enc Tryz.prog W 0 (fun _=>true) true Tryz.f4.params.toList args.toList ds p:=ZV
 rw[Tryz.params4] at hA hval
 obtain⟨v0,vs0,d0,ds0,p0,q0,hargs,rfl,rfl,h0,r0⟩:=trodAll_cons hA
 obtain⟨v1,vs1,d1,ds1,p1,q1,rfl,rfl,rfl,h1,r1⟩:=trodAll_cons r0
 obtain⟨rfl,rfl,rfl⟩:=trodAll_nil r1
 obtain rfl:args=#[v0,v1]:=by cases args;simp_all
 obtain⟨x0,y0,z0,e0⟩:=wI Tryz.underlying22 Tryz.underlying3 y3 (hval 0 22 v0 rfl rfl) h0
 obtain⟨x1,y1,z1,e1⟩:=wI Tryz.underlying22 Tryz.underlying3 y3 (hval 1 22 v1 rfl rfl) h1
 have hcall:=(Cu y0 z0 y1 z1).use (w:=W) (vs:=[v0,v1]) ⟨e0,e1,trivial⟩
 exact K5 (tb:=4) acf acf acf Tryz.underlying4 J J hW' hcall
theorem YU:Rows.morphAnalysesRow.holds Tryz.pinned (OpenSpec.ofChange Rows.morphAnalysesSpec) :=
 OpenClaim.holds_of_wide 4 Tryz.f4 rfl rfl rfl rfl rfl rfl rfl ⟨rfl,rfl,rfl,rfl,rfl⟩ rfl rfl rfl rfl rfl acf Tryz.func4 acf
  (of_decide_eq_true acf) (by unfold Func.isWrapper;first|(rw[if_pos (by decide +kernel)];kernel_rfl)|(rw[if_neg (by decide +kernel)];exact⟨rfl,rfl⟩))
  (fun os started H enc _=>lifted os started H enc)
end morphAnalyses
theorem morphAnalyses_holds:Rows.MorphAnalysesSaid:=morphAnalyses.YU
end Go.Proofs.YtlapahnodhmcpaaGreat
