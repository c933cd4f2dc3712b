/-
  Part of the proof.
-/
import Derived.Test.YtlapahnodhmcpaaGreatJ0
import Derived.Test.YtlapahnodhmcpaaGreatJ16
import Derived.Test.YtlapahnodhmcpaaGreatJ32
import Derived.Test.YtlapahnodhmcpaaGreatJ15
import Derived.Test.YtlapahnodhmcpaaGreatJ27
set_option linter.unusedVariables false
set_option linter.unusedSectionVars false
set_option linter.unusedSimpArgs false
set_option maxRecDepth 100000
set_option maxHeartbeats 40000000
namespace Go.Wf
open Go.Am Go.Wb Go.Wc
variable {g:aI} {cl cn:List UInt8}{w:List Int}
theorem Wn (h:(lj (bS g cl w) (jv g cl cn)).2.2=true):CB g cl cn w=true:=by unfold CB;rw[h];rfl
theorem Wo (h:(lj (bS g cl w) (jv g cl cn)).2.2=false):CB g cl cn w=decide ((64:Int)<((Ci g cl cn w).length:Nat)):=by
 unfold CB;rw[h,Bool.false_or];exact decide_eq_decide.2 ace
theorem Tw (h:CB g cl cn w=true):wP g cl cn w=Ci g cl cn w∧Ql g cl cn w=(lj (bS g cl w) (jv g cl cn)).2.1∧Qm g cl cn w=CB g cl cn w:=⟨if_pos h,if_pos h,(if_pos h).trans h.symm⟩
theorem Tx (h:CB g cl cn w=false):wP g cl cn w=(lj (Ci g cl cn w) (nV g)).1∧Ql g cl cn w=(lj (bS g cl w) (jv g cl cn)).2.1++(lj (Ci g cl cn w) (nV g)).2.1∧Qm g cl cn w=(lj (Ci g cl cn w) (nV g)).2.2 :=
 ⟨if_neg (by rw[h];decide),if_neg (by rw[h];decide),if_neg (by rw[h];decide)⟩
theorem Qn (g:aI)(cl cn:List UInt8)(w:List Int):(Ql g cl cn w).length≤(jv g cl cn).length+(nV g).length:=by
 have h1:=Ck (l:=jv g cl cn) (w:=bS g cl w)
 have h2:=Ck (l:=nV g) (w:=Ci g cl cn w)
 unfold Ql
 split
 ·omega
 ·rw[aab];omega
theorem Qo (hf:ja (bh g cl) w=true):(TS g cl cn w).length≤192:=by
 have:=p9 hf
 exact H7 ace fun _=>ace
theorem Ty (h:CB g cl cn w=false):(Ci g cl cn w).length≤64:=by
 obtain⟨_,h2,h3,_⟩:=Cj h
 rw[h2];omega
end Go.Wf
namespace Go.Proofs.YtlapahnodhmcpaaGreat
open Go.Am Go.Wb Go.Wc Go.Wf Go.We
theorem NQ {g:aI}{cl cn:List UInt8}(hg:sk g)(hu:gP g cl cn=0):aX Tryz.prog 95 [df g,aj cl,aj cn] (.p (.tup [.agg (B8 (bh g cl) (bP g cl cn) (jv g cl cn) (nV g)),int 0])):=by
 have h:=AK (cl:=cl) (cn:=cn) hg
 rw[if_pos hu,hu] at h;exact h
theorem Qp {g:aI}{cl cn:List UInt8}(hg:sk g)(hu:gP g cl cn≠0):aX Tryz.prog 95 [df g,aj cl,aj cn] (.p (.tup [RP,int (gP g cl cn)])):=by
 have h:=AK (cl:=cl) (cn:=cn) hg
 rw[if_neg hu] at h;exact h
theorem EA {w:List Int}{l:List aG}{acc:List (List UInt8)}{cn:List UInt8}{b:Bool}(hw:w.length≤64)(hl:l.length≤1048576)(hR:∀r∈l,Qg r)(ha:acc.length≤1048576)(hb:b=false) :
  lg Tryz.prog 119 [vvw (ints w),vvz (.sl (l.map bm)),.pbox 1000000 0,.pbox 1000001 0]
   [(11,.arr 9 (acc.map aj)),(1000000,.box 64 [vvw (aj cn),vvv,vvv,.own 11]),(1000001,.box 4 [vvw (bool b)])]
   (vvw (ints (lj w l).1)) [(11,.arr 9 ((acc++(lj w l).2.1).map aj)),(1000000,.box 64 [vvw (aj cn),vvv,vvv,.own 11]),(1000001,.box 4 [vvw (bool (lj w l).2.2)])]:=by
 subst hb;exact yk hw hl hR ha
theorem Wp:Ba Tryz.prog 81 Tryz.f81.ntmps 8 64 4 9 (Tryz.f81.body.getD .skip):=⟨Tryz.f81,Tryz.func81,rfl,rfl,rfl,acf,PO,F7⟩
abbrev Tz (g:aI)(cl cn:List UInt8)(w:List Int):Prop:=aX Tryz.prog 81 [df g,aj cl,ints w,aj cn] (.p (.tup [iG (fX g cl cn w),int (dz g cl cn w)]))
theorem Qq {g:aI}{cl cn:List UInt8}{w:List Int}(hg:sk g)(hu:gP g cl cn≠0):Tz g cl cn w:=by
 refine du Wp (ZZ J) fun w0 M0 aa=>?_
 refine c6 [2,9] [2,3,8,21,22,23] [8] ?_
 refine oN J J J J J (Qp hg hu) ?_
 refine wA [10] [2,3,8,10,11] [8,10] ?_
 refine aS 134 [(2,_),(3,_),(8,_),(10,_),(11,_)] [(8,_)] aa J ⟨.inl J,.inl J,.inl J,.inr ⟨_,_,rfl,rfl,rfl⟩,.inl J,trivial⟩ ⟨rfl,trivial⟩ ?_
 refine gS [2] [2,3,8,10,11,27] [8] ?_
 refine oP J (cI (b':=true) (gU J J J) (by simp[hu])) ?_
 refine wA [5] [8,11] [8] ?_
 refine oP J (aC (aF J DY BR J J J) J) ?_
 refine wZ [7] ?_
 refine bA J J ?_
 rw[kY (nO hu) hu,nO hu];exact⟨rfl,rfl⟩
theorem NR {g:aI}{cl cn:List UInt8}{w:List Int}(hg:sk g)(hw:w.length≤1099511627776)(hu:gP g cl cn=0):Tz g cl cn w:=by
 have hch:(jv g cl cn).length≤1000:=aau kH (jt hg cl cn).change
 have hod:(nV g).length≤1000:=aau kH hg.order
 have hn1:=Ck (l:=jv g cl cn) (w:=bS g cl w)
 have hn2:=Qn g cl cn w
 have hpre:=(jt hg cl cn).pre
 have hsuf:=(jt hg cl cn).suf
 refine du Wp (ZZ J) fun w0 M0 aa=>?_
 refine c6 [2,9] [2,3,8,21,22,23] [8] ?_
 refine oN J J J J J (NQ hg hu) ?_
 refine wA [10] [2,3,8,10,11] [8,10] ?_
 refine aS 134 [(2,_),(3,_),(8,_),(10,_),(11,_)] [(8,_)] aa J ⟨.inl J,.inl J,.inl J,.inr ⟨_,_,rfl,rfl,rfl⟩,.inl J,trivial⟩ ⟨rfl,trivial⟩ ?_
 refine gS [2] [2,3,8,10,11,27] [8] ?_
 refine oP J (cI (b':=false) (gU J J J) (by rfl)) ?_
 refine wA [11] [2,3,8,10,32,33] [8] ?_
 refine oC J J J J (J1 (c:=(bh g cl)) hw (lb hg cl).fits (lb hg cl).sim) ?_
 refine wS [3003] [2,3,8,10,35] [8] ?_ ?_<;>intro h1
 refine wA [3] [8] [8] ?_
 refine oP J (aC (aF J DY BR J J J) J) ?_
 refine wZ [6] ?_
 refine bA J J ?_;rotate_left
 refine wA [19,4] [2,8,10,12,13,14] [8,12,13] ?_
 refine bL 12 3 11 9 64 aa J J J J ?_
 refine gS [0] [2,8,10,12,13,14] [8,11,12,13] ?_
 refine bw (n:=134) 1 (fun p=>[12].getD p 0) (fun p=>[[(8,.box 64 [vvw (.sc (.string ⟨#[]⟩)),vvv,vvv,vvv]),(11,.arr 9 []),(12,.box 64 [vvw (aj cn),vvv,vvv,.own 11]),(13,.box 4 [vvw (bool false)])],[(8,.box 64 [vvw (.sc (.string ⟨#[]⟩)),vvv,vvv,vvv]),(11,.arr 9 ((lj (bS g cl w) (jv g cl cn)).2.1.map aj)),(12,.box 64 [vvw (aj cn),vvv,vvv,.own 11]),(13,.box 4 [vvw (bool (lj (bS g cl w) (jv g cl cn)).2.2)])]].getD p []) 13 [(0,some [0]),(1,none),(2,none),(3,none),(4,none),(5,none),(6,none),(7,none),(8,none),(9,none),(10,none),(11,none)] [(40,.fn 119 [.bx 12,.bx 13]),(41,vvw (ints w)),(42,vvw (ints w)),(43,vvw (int w.length)),(44,vvw (.pc (B8 (bh g cl) (bP g cl cn) (jv g cl cn) (nV g)) 0)),(45,vvw (.pc (B8 (bh g cl) (bP g cl cn) (jv g cl cn) (nV g)) 4)),(46,vvw (int (bh g cl).strip)),(47,vvw (int ((w.length:Int)-(bh g cl).strip))),(48,vvw (ints (bS g cl w))),(49,vvw (ints (bS g cl w))),(50,vvw (.pc (B8 (bh g cl) (bP g cl cn) (jv g cl cn) (nV g)) 10)),(51,vvw (.sl ((jv g cl cn).map bm))),(52,vvw (ints (TS g cl cn w))),(2,vvw (ints w)),(8,.pbox 8 0),(10,vvw (.pc (B8 (bh g cl) (bP g cl cn) (jv g cl cn) (nV g)) 0)),(12,.pbox 12 0),(13,.pbox 13 0),(14,.fn 119 [.bx 12,.bx 13])] mixed acf acf acf acf acf ?_ (fun t d h=>h) J ?_ ?_ ?_
 · rfl
 · exact
     ai (ai ((af J J)) (trivial)) (
     ai (fun _=>(af J J)) (
     ai (fun _=>(af J J)) (
     ai (fun _=>(gy J Tryz.underlying22 J)) (
     ai (fun _=>(b9 J PY J)) (
     ai (fun _=>(b9 J Tf J)) (
     ai (fun _=>(cA J PL J J)) (
     ai (fun _=>(qh J J J (by have:=tx (c:=bh g cl) (w:=w) ach;omega))) (
     ai (fun _=>(fa J Tryz.underlying22 y3 J J (by have:=tx (c:=bh g cl) (w:=w) ach;omega) (fun _=>rfl))) (
     ai (fun _=>(bC J J J ((aq.weaken (fb (l:=bS g cl w) (by have:=p9 (g:=g) (cl:=cl) (w:=w) ach;omega)))) aa)) (
     ai (fun _=>(b9 J PZ J)) (
     ai (fun _=>(cA J PM J J)) (
     trivial))))))))))))
 · exact ai (fun X fl dO dh=>have Yc:X.lookup 49=some (vvw (ints (bS g cl w))):=(dh 49 acg).trans rfl;have Yd:X.lookup 51=some (vvw (.sl ((jv g cl cn).map bm))):=(dh 51 acg).trans rfl;Da (t:=52) (o1:=[(8,.box 64 [vvw (.sc (.string ⟨#[]⟩)),vvv,vvv,vvv]),(11,.arr 9 []),(12,.box 64 [vvw (aj cn),vvv,vvv,.own 11]),(13,.box 4 [vvw (bool false)])]) [(11,11),(1000000,12),(1000001,13)] J J J fl (cx:=.tmp 40) ((dh 40 acg).trans J) J (xs:=#[.tmp 49,.tmp 51]) (svs:=[vvw (ints (bS g cl w)),vvw (.sl ((jv g cl cn).map bm))]) (by simp only[OB,St.ev,Yc,Yd]) (yk (w:=(bS g cl w)) (l:=(jv g cl cn)) (acc:=[]) (cn:=cn) (by have:=p9 (g:=g) (cl:=cl) (w:=w) ach;omega) ace (fun r hr=>hg.rules r (gM hr)) (Z5 _)) ⟨.inl J,.inr (.inl ⟨_,rfl,rfl⟩),.inl J,.inl J,trivial⟩ ⟨rfl,rfl,rfl,trivial⟩ J J J J J dO J J J aa) (trivial)
 refine bO (n:=1) acf ?_
 refine xe 13 ?_
 refine bg acf ?_
 refine jl [10] [8,10,12,13,14,55,56,59] [8,11,12,13] ?_
 refine wZ [0,5000] ?_
 refine oC rfl rfl rfl rfl (J2 (l:=[(bP g cl cn).pre,(TS g cl cn w),(bP g cl cn).suf]) (ZZ rfl) (by intro x hx;have hsl:=Qo (g:=g) (cl:=cl) (cn:=cn) (w:=w) ach;simp only[aah,abU,or_false] at hx;rcases hx with rfl|rfl|rfl<;>omega)) ?_
 refine wA [3] [8,10,12,13,14,16] [8,11,12,13] ?_
 refine ct (fun zs=>zs=⟨134,[(8,.pbox 8 0),(12,.pbox 12 0),(13,.pbox 13 0),(16,vvw (ints (wP g cl cn w)))],[(8,.box 64 [vvw (.sc (.string ⟨#[]⟩)),vvv,vvv,vvv]),(11,.arr 9 ((Ql g cl cn w).map aj)),(12,.box 64 [vvw (aj cn),vvv,vvv,.own 11]),(13,.box 4 [vvw (bool (Qm g cl cn w))])]⟩) ?_ ?_
 refine ct (fun zs=>zs=⟨134,[(8,.pbox 8 0),(10,vvw (.pc (B8 (bh g cl) (bP g cl cn) (jv g cl cn) (nV g)) 0)),(12,.pbox 12 0),(13,.pbox 13 0),(14,.fn 119 [.bx 12,.bx 13]),(16,vvw (ints (Ci g cl cn w)))],[(8,.box 64 [vvw (.sc (.string ⟨#[]⟩)),vvv,vvv,vvv]),(11,.arr 9 ((lj (bS g cl w) (jv g cl cn)).2.1.map aj)),(12,.box 64 [vvw (aj cn),vvv,vvv,.own 11]),(13,.box 4 [vvw (bool (CB g cl cn w))])]⟩) ?_ ?_
 refine wS [4003] [8,10,12,13,14,16,63] [8,11,12,13] ?_ ?_<;>intro h2'
 refine wA [10006] [8,10,12,13,14,16] [8,11,12,13] ?_;rotate_left
 refine wA [1,10004] [8,10,12,13,14,16] [8,11,12,13] ?_;rotate_left
 rintro zs ⟨rfl⟩
 refine wS [3006] [8,10,12,13,14,16,69] [8,11,12,13] ?_ ?_<;>intro h3
 refine wA [6] [8,12,13,70,71,73] [8,11,12,13] ?_
 refine oS J (aO [(11,11),(1000000,12),(1000001,13)] J J J J J J J (EA (w:=(Ci g cl cn w)) (l:=(nV g)) (acc:=(lj (bS g cl w) (jv g cl cn)).2.1) (cn:=cn) (Ty ach) ace (fun r hr=>hg.rules r (gM hr)) ace ach) ⟨.inl J,.inr (.inl ⟨_,rfl,rfl⟩),.inl J,.inl J,trivial⟩ ⟨rfl,rfl,rfl,trivial⟩ J J J J J aa) J ?_
 refine wA [10002] [8,12,13,16] [8,11,12,13] ?_;rotate_left
 refine wA [10002] [8,12,13,16] [8,11,12,13] ?_;rotate_left
 rintro zs ⟨rfl⟩
 refine wS [3006] [8,12,16,75] [8,11,12] ?_ ?_<;>intro h4
 refine wA [3] [8] [8] ?_
 refine oP J (aC (aF J DY BR J J J) J) ?_
 refine wZ [6] ?_
 refine bA J J ?_;rotate_left
 refine wA [5] [8,12,16] [8,11,12] ?_
 refine bL 12 1 31 3 64 aa J J J J ?_
 refine bL 12 2 32 3 64 aa J J J J ?_
 refine gS [2,4] [8,12,77,78,79] [8,11,12,31,32] ?_
 have hwl:=Tv (g:=g) (cl:=cl) (cn:=cn) (w:=w) ach
 refine lp (fun zm zs=>∃i:Nat,zm=(wP g cl cn w).length-i∧(i≤(wP g cl cn w).length)∧zs=⟨134,[(8,.pbox 8 0),(12,.pbox 12 0),(77,vvw (ints (wP g cl cn w))),(78,vvw (int (wP g cl cn w).length)),(79,vvw (int i))],[(8,.box 64 [vvw (.sc (.string ⟨#[]⟩)),vvv,vvv,vvv]),(11,.arr 9 ((Ql g cl cn w).map aj)),(12,.box 64 [vvw (aj cn),.own 31,.own 32,.own 11]),(31,.arr 3 ((gO ((wP g cl cn w).take i)).map int)),(32,.arr 3 ((iO (wP g cl cn w) i).map int))]⟩) ?_ ?_
 exact⟨_,0,rfl,Z5 _,rfl⟩
 rintro zm zs ⟨i,rfl,aZ,rfl⟩
 have hc:=tB (wP g cl cn w) i
 have hl:=tq ((wP g cl cn w).take i)
 have hl2:((wP g cl cn w).take i).length=i:=by rw[aaa];omega
 refine wS [3006] [8,12,77,78,79,80] [8,11,12,31,32] ?_ ?_<;>intro h5
 refine wS [7,3010] [8,12,18,77,78,79,84] [8,11,12,31,32] ?_ ?_<;>intro h6
 refine wA [5,1000,6,9002] [8,12,77,78,79] [8,11,12,31,32] ?_;rotate_left
 refine wS [5,3009] [8,12,19,77,78,79,95] [8,11,12,31,32] ?_ ?_<;>intro h7
 refine wA [5,1000,6,9002] [8,12,77,78,79] [8,11,12,31,32] ?_;rotate_left
 refine wA [5,9002] [8,12,77,78,79] [8,11,12,31,32] ?_;rotate_left
 refine wA [7] [8,12] [8,11,12,31,32] ?_
 obtain rfl:i=(wP g cl cn w).length:=ace
 rw[aa1]
 refine wA [3] [8,12,104] [8,11,12,31,32] ?_
 refine oS J (aO [(0,32)] J J J J J J J (oO (l:=iO (wP g cl cn w) (wP g cl cn w).length) (by have:=tB (wP g cl cn w) (wP g cl cn w).length;omega)) ⟨.inl J,trivial⟩ ⟨rfl,trivial⟩ J J J J J aa) J ?_
 refine wA [6] [8,12] [8,11,12,31,32] ?_
 refine lp (fun zm zs=>∃c:List Int,zm=c.length∧(c.length≤192)∧(rq ((gO (wP g cl cn w)).length:Nat) c=rq ((gO (wP g cl cn w)).length:Nat) (tz (iO (wP g cl cn w) (wP g cl cn w).length)))∧zs=⟨134,[(8,.pbox 8 0),(12,.pbox 12 0)],[(8,.box 64 [vvw (.sc (.string ⟨#[]⟩)),vvv,vvv,vvv]),(11,.arr 9 ((Ql g cl cn w).map aj)),(12,.box 64 [vvw (aj cn),.own 31,.own 32,.own 11]),(31,.arr 3 ((gO (wP g cl cn w)).map int)),(32,.arr 3 (c.map int))]⟩) ?_ ?_
 exact⟨_,tz (iO (wP g cl cn w) (wP g cl cn w).length),rfl,aau (Di _) (aau (tB _ _) hwl),rfl,rfl⟩
 rintro zm zs ⟨c,rfl,fU,fW,rfl⟩
 have hlc:=Er (l:=c)
 refine wS [2002,6002,7002] [8,12,111] [8,11,12,31,32] ?_ ?_<;>intro h8'
 refine wS [6004,6000,6000,6000,6002,3004] [8,12,124] [8,11,12,31,32] ?_ ?_<;>intro h9
 refine wA [9,0,0] [8,12,126,130] [8,11,12,31,32] ?_
 refine oP J (gW J Tryz.underlying22 y3 J J J (by first|(simp only[ll];omega)|omega)) ?_
 refine pj 131 J J aa J ?_
 refine WH [9004] [8,12] [8,11,12,31,32] ?_
 refine⟨_,⟨c.take (c.length-1),rfl,by rw[aaa];omega,(GH ace ace).trans fW,?_⟩,by rw[aaa];omega⟩
 rw[List.map_take,show c.length-1=((c.length:Int)-1).toNat by omega];rfl
 refine wA [7] [8,12] [8,11,12,31,32] ?_
 refine aS 134 [(8,_),(12,_)] [(8,_)] aa J ⟨.inl J,.inr ⟨_,_,rfl,rfl,rfl⟩,trivial⟩ ⟨rfl,trivial⟩ ?_
 refine Cw [7] ?_
 refine bA J J ?_;rotate_left
 refine wA [22] [8,12] [8,11,12,31,32] ?_
 refine aS 134 [(8,_),(12,_)] [(8,_)] aa J ⟨.inl J,.inr ⟨_,_,rfl,rfl,rfl⟩,trivial⟩ ⟨rfl,trivial⟩ ?_
 refine Cw [7] ?_
 refine bA J J ?_;rotate_left
 all_goals first
  | (
    first
      | (rw[kY (tw hu ach) acg,tw hu ach];exact⟨rfl,rfl⟩)
      | (rw[kY (AM hu ach ach) acg,AM hu ach ach];exact⟨rfl,rfl⟩)
      | (rw[(yq hu ach ach).2,(yq hu ach ach).1,←Tu,←fW,AL ace];exact⟨rfl,rfl⟩);done)
  | (
    first|(rw[Wn ach];rfl)|(rw[Wo ach];rfl);done)
  | (
    first|(rw[(Tw ach).1,(Tw ach).2.1,(Tw ach).2.2];first|done|rfl)|(rw[(Tx ach).1,(Tx ach).2.1,(Tx ach).2.2];first|done|rfl);done)
  | (
    refine⟨_,⟨i+1,rfl,ace,?_⟩,ace⟩
    first
      | (rw[lJ ace,if_neg ace,Ie (fun q=>absurd q.1 ace),Z8];rfl)
      | (rw[lJ ace,if_pos ace,aav,NP ace (by unfold nL;omega),Z8];rfl)
      | (rw[lJ ace,if_pos ace,aav,Ie (fun q=>absurd q.2 (by unfold nL;omega))];rfl);done)
theorem J8 {g:aI}{cl cn:List UInt8}{w:List Int}(hg:sk g)(hw:w.length≤1099511627776):Tz g cl cn w:=by
 by_cases hu:gP g cl cn=0
 ·exact NR hg hw hu
 ·exact Qq hg hu
end Go.Proofs.YtlapahnodhmcpaaGreat
namespace Go.Wf
open Go.Am Go.Wb Go.Wc
def uI (g:aI)(cl:List UInt8)(w:List Int):List gL→Int
 | []=>0
 | c :: l=>if dz g cl c.name w≠0 then dz g cl c.name w else uI g cl w l
def cV (g:aI)(cl:List UInt8)(w:List Int):Int:=if(fF g cl).isSome=true then uI g cl w (bh g cl).cells else 6
def fe (g:aI)(cl:List UInt8)(w:List Int):List aY:=if cV g cl w=0 then(bh g cl).cells.map fun c=>fX g cl c.name w else[]
variable {g:aI} {cl:List UInt8}{w:List Int}
theorem yr:∀ {l:List gL}{i:Nat},i<l.length→(∀j,j<i→decide (dz g cl (l.getD j default).name w=0)=true)→dz g cl (l.getD i default).name w≠0→uI g cl w l=dz g cl (l.getD i default).name w
 | [],i,h,_,_=>absurd h (Nat.not_lt_zero i)
 | c :: l,0,_,_,hn=>if_pos hn
 | c :: l, i + 1, h, hz, hn => by
   have h0:dz g cl c.name w=0:=of_decide_eq_true (hz 0 ace)
   unfold uI
   rw[if_neg (fun q=>q h0)]
   exact yr (l:=l) (i:=i) (by simpa using h) (fun j hj=>hz (j+1) ace) hn
theorem yt:∀ {l:List gL},(∀j,j<l.length→decide (dz g cl (l.getD j default).name w=0)=true)→uI g cl w l=0
 | [],_=>rfl
 | c :: l, h => by
   have h0:dz g cl c.name w=0:=of_decide_eq_true (h 0 (by simp))
   unfold uI
   rw[if_neg (fun q=>q h0)]
   exact yt (l:=l) fun j hj=>h (j+1) (by simpa using hj)
theorem mU (h:(fF g cl).isSome=false):cV g cl w=6∧fe g cl w=[]:=by
 have e:cV g cl w=6:=if_neg (by rw[h];decide)
 exact⟨e,by unfold fe;rw[if_neg (by rw[e];decide)]⟩
theorem oV {i:Nat}(h:(fF g cl).isSome=true)(hi:i<(bh g cl).cells.length)(hz:∀j,j<i→decide (dz g cl ((bh g cl).cells.getD j default).name w=0)=true)(hn:dz g cl ((bh g cl).cells.getD i default).name w≠0) :
  cV g cl w=dz g cl ((bh g cl).cells.getD i default).name w∧fe g cl w=[]:=by
 have e:cV g cl w=dz g cl ((bh g cl).cells.getD i default).name w:=(if_pos h).trans (yr hi hz hn)
 exact⟨e,by unfold fe;rw[if_neg (by rw[e];exact hn)]⟩
theorem oW {i:Nat}(h:(fF g cl).isSome=true)(hi:(bh g cl).cells.length≤i)(hz:∀j,j<i→decide (dz g cl ((bh g cl).cells.getD j default).name w=0)=true) :
  cV g cl w=0∧fe g cl w=((bh g cl).cells.take i).map fun c=>fX g cl c.name w:=by
 have e:cV g cl w=0:=(if_pos h).trans (yt fun j hj=>hz j ace)
 exact⟨e,by unfold fe;rw[if_pos e,aaj hi]⟩
def EB (x:Int):Bool:=decide (0≤x)&&decide (x<64)
def Ig:List UInt8:=[110,111,110,101]
def qb (w:List Int):List UInt8:=if w.all EB=true then w.map fun n=>UInt8.ofNat n.toNat else Ig
theorem Wq {x:Int}(h:¬x<0∧¬64≤x):IntKind.u8.wrap x=x:=by
 have:IntKind.u8.wrap x=x % 256:=by
  simp only[IntKind.wrap,IntKind.bits,IntKind.signed]
  first|rfl|(simp;omega)|omega
 rw[this];omega
theorem TA {w:List Int}{i:Nat}(hi:i<w.length)(h:EB (w.getD i default)=false):qb w=Ig:=by
 unfold qb;rw[As hi h];rfl
theorem Qr {w:List Int}{i:Nat}(hi:w.length≤i)(h:∀j,j<i→EB (w.getD j default)=true):qb w=(w.take i).map fun n=>UInt8.ofNat n.toNat:=by
 unfold qb;rw[uD fun j hj=>h j ace,if_pos rfl,aaj hi]
end Go.Wf
namespace Go.Proofs.YtlapahnodhmcpaaGreat
open Go.Am Go.Wb Go.Wc Go.Wf Go.We
theorem Cl {g:aI}{cl:List UInt8}(hl:g.classes.length≤1099511627776):aX Tryz.prog 80 [df g,aj cl] (.p (.tup [bT (bh g cl),bool (fF g cl).isSome])):=ye hl
theorem Ye:G7 Tryz.prog 47 Tryz.f47.ntmps 6 7 (Tryz.f47.body.getD .skip):=⟨Tryz.f47,Tryz.func47,rfl,rfl,rfl,acf⟩
theorem GI {g:aI}{cl:List UInt8}{w:List Int}(hg:sk g)(hw:w.length≤1099511627776):aX Tryz.prog 47 [df g,aj cl,ints w] (.p (.tup [bV (fe g cl w),int (cV g cl w)])):=by
 have hcl:=(lb hg cl).cells
 refine im Ye (ZZ J) fun w0 M0 aa=>?_
 refine c6 [2,8] [1,2,3,16,17] [] ?_
 refine oN J J J J J (Cl (by have:=hg.nclasses;omega)) ?_
 refine wS [3015] [1,2,3,8,22] [8] ?_ ?_<;>intro h1
 refine wZ [9] ?_
 refine cK J J ?_;rotate_left
 refine wA [1005,4] [1,2,3,8,10] [8,10] ?_
 refine aS 48 [(1,_),(2,_),(3,_),(8,_),(10,_)] [(10,_)] aa J ⟨.inl J,.inl J,.inl J,.inr ⟨_,_,rfl,rfl,rfl⟩,.inl J,trivial⟩ ⟨rfl,trivial⟩ ?_
 refine gS [3,4] [1,2,3,10,24,25,26] [10] ?_
 refine lp (fun zm zs=>∃i:Nat,zm=(bh g cl).cells.length-i∧(i≤(bh g cl).cells.length)∧(∀j,j<i→decide (dz g cl ((bh g cl).cells.getD j default).name w=0)=true)∧zs=⟨48,[(1,vvw (aj cl)),(2,vvw (ints w)),(3,vvw (iF g)),(10,.own 10),(24,vvw (.sl ((bh g cl).cells.map dv))),(25,vvw (int (bh g cl).cells.length)),(26,vvw (int i))],[(10,.arr 64 ((((bh g cl).cells.take i).map fun c=>fX g cl c.name w).map iG))]⟩) ?_ ?_
 exact⟨_,0,rfl,Z5 _,fun j hj=>absurd hj ace,rfl⟩
 rintro zm zs ⟨i,rfl,aZ,au,rfl⟩
 have hlr:(((bh g cl).cells.take i).map fun c=>fX g cl c.name w).length=i:=by rw[Z0,aaa];omega
 refine wS [3006] [1,2,3,10,24,25,26,27] [10] ?_ ?_<;>intro h2
 refine wA [7,12] [1,2,3,10,24,25,26,31,32,33,35] [10] ?_
 refine oN J J J J J (J8 (cn:=((bh g cl).cells.getD i default).name) hg hw) ?_
 refine wS [3015] [1,2,3,10,13,14,24,25,26,40] [10,13] ?_ ?_<;>intro h3
 refine wZ [15] ?_
 refine cK J J ?_;rotate_left
 refine wA [6,1000,5,9002] [1,2,3,10,24,25,26] [10] ?_
 exact⟨_,⟨i+1,rfl,ace,gD au (decide_eq_true ace),by rw[take_succ ace,Z8,Z8];rfl⟩,ace⟩
 refine wZ [14] ?_
 refine cK J J ?_;rotate_left
 all_goals
  first
   | (rw[(mU ach).1,(mU ach).2];exact⟨rfl,rfl⟩)
   | (rw[(oV (i:=i) ach ace au ach).1,(oV (i:=i) ach ace au ach).2];exact⟨rfl,rfl⟩)
   | (rw[(oW (i:=i) ach ace au).1,(oW (i:=i) ach ace au).2];exact⟨rfl,rfl⟩)
theorem Yf:G7 Tryz.prog 46 Tryz.f46.ntmps 6 7 (Tryz.f46.body.getD .skip):=⟨Tryz.f46,Tryz.func46,rfl,rfl,rfl,acf⟩
theorem EC {g:aI}{cl:List UInt8}{w:List Int}(hg:sk g)(hw:w.length≤1099511627776):aX Tryz.prog 46 [df g,aj cl,ints w] (.p (.tup [bV (fe g cl w),int (cV g cl w)])):=by
 have hcl:=(lb hg cl).cells
 refine im Yf (ZZ J) fun w0 M0 aa=>?_
 refine c6 [2,8] [1,2,3,15,16] [] ?_
 refine oN J J J J J (oT (by have:=hg.nclasses;omega)) ?_
 refine wS [3015] [1,2,3,8,21] [8] ?_ ?_<;>intro h1
 refine wZ [9] ?_
 refine cK J J ?_;rotate_left
 refine wA [4] [1,2,3,8] [8] ?_
 refine aS 50 [(1,_),(2,_),(3,_),(8,_)] [] aa J ⟨.inl J,.inl J,.inl J,.inr ⟨_,_,rfl,rfl,rfl⟩,trivial⟩ trivial ?_
 refine gS [1001,9] [1,2,3,8,10,11] [10] ?_
 refine lp (fun zm zs=>∃i:Nat,zm=(bh g cl).cells.length-i∧(i≤(bh g cl).cells.length)∧(∀j,j<i→decide (dz g cl ((bh g cl).cells.getD j default).name w=0)=true)∧zs=⟨50,[(1,vvw (aj cl)),(2,vvw (ints w)),(3,vvw (iF g)),(8,vvw (BY (bh g cl))),(10,.own 10),(11,vvw (int i))],[(10,.arr 64 ((((bh g cl).cells.take i).map fun c=>fX g cl c.name w).map iG))]⟩) ?_ ?_
 exact⟨_,0,rfl,Z5 _,fun j hj=>absurd hj ace,rfl⟩
 rintro zm zs ⟨i,rfl,aZ,au,rfl⟩
 have hlr:(((bh g cl).cells.take i).map fun c=>fX g cl c.name w).length=i:=by rw[Z0,aaa];omega
 refine wS [6,3003] [1,2,3,8,10,11,26] [10] ?_ ?_<;>intro h2
 refine wA [6] [1,2,3,8,10,11] [10] ?_
 refine bw (n:=50) 2 (fun p=>[13,14].getD p 0) (fun p=>[[(10,.arr 64 ((((bh g cl).cells.take i).map fun c=>fX g cl c.name w).map iG))],[(10,.arr 64 ((((bh g cl).cells.take i).map fun c=>fX g cl c.name w).map iG)),(12,.box 64 [vvw (.sc (.string ⟨#[]⟩)),vvv,vvv,vvv])],[(10,.arr 64 ((((bh g cl).cells.take i).map fun c=>fX g cl c.name w).map iG)),(12,.box 64 [vvw (aj (fX g cl ((bh g cl).cells.getD i default).name w).cell),vvw (ints (fX g cl ((bh g cl).cells.getD i default).name w).ah),vvw (ints (fX g cl ((bh g cl).cells.getD i default).name w).cuts),vvw (strs (fX g cl ((bh g cl).cells.getD i default).name w).rules)])]].getD p []) 16 [(0,none),(1,none),(2,none),(3,none),(4,none),(5,none),(6,none),(7,none),(8,none),(9,none),(10,none),(11,none),(12,none),(15,none)] [(30,vvw (df g)),(31,vvw (aj cl)),(32,vvw (ints w)),(33,vvw (.pc (oM (bh g cl)) 5)),(34,vvw (.sl ((bh g cl).cells.map dv))),(35,vvw (int i)),(36,vvw (.pc (D4 ((bh g cl).cells.getD i default)) 0)),(37,vvw (.pc (D4 ((bh g cl).cells.getD i default)) 0)),(38,vvw (aj ((bh g cl).cells.getD i default).name)),(39,vvw (.tup [iG (fX g cl ((bh g cl).cells.getD i default).name w),int (dz g cl ((bh g cl).cells.getD i default).name w)])),(29,vvw (.tup [iG (fX g cl ((bh g cl).cells.getD i default).name w),int (dz g cl ((bh g cl).cells.getD i default).name w)])),(40,vvw (iG (fX g cl ((bh g cl).cells.getD i default).name w))),(41,vvw (int (dz g cl ((bh g cl).cells.getD i default).name w))),(12,.pbox 12 0),(13,vvw (int (dz g cl ((bh g cl).cells.getD i default).name w))),(1,vvw (aj cl)),(2,vvw (ints w)),(3,vvw (iF g)),(8,vvw (BY (bh g cl))),(10,.own 10),(11,vvw (int i))] mixed acf acf acf acf acf ?_ (fun t d h=>h) J ?_ ?_ ?_
 ·rfl
 ·exact
   ai (fun _=>(aC (aM J pS l8 J (ZZ J)) J)) (
   ai (fun _=>(af J J)) (
   ai (fun _=>(af J J)) (
   ai (fun _=>(b9 J uz J)) (
   ai (fun _=>(cA J JE J J)) (
   ai (fun _=>(af J J)) (
   ai (fun _=>(j2 (f:=dv) (l:=(bh g cl).cells) (i:=i) (z:=(bh g cl).cells.getD i default) J J Tryz.underlying95 HL J J ace (fun _=>rfl))) (
   ai (fun _=>(b9 J PW J)) (
   ai (fun _=>(cA J Uy J J)) (
   ai (fun _=>(bG J J J J (GG (cn:=((bh g cl).cells.getD i default).name) hg hw) aa)) (
   ai (fun _=>(af J J)) (
   ai (fun _=>(nW J J J)) (
   ai (fun _=>(nW J J J)) (
   ai (fun _=>(dn J J)) (
   trivial))))))))))))))
 ·exact ai (fun X fl dO dh=>gZ (t:=12) rfl rfl rfl rfl fl BR rfl rfl (fun t' z h hne=>fz (by rfl) (dO t' z h) hne) rfl aa) (ai (fun X fl dO dh=>cr rfl (cq (u:=12) (v:=40) (id:=12) rfl rfl fl F7 ((dh 12 acg).trans rfl) rfl ((dh 40 acg).trans rfl) rfl acg rfl rfl (fun t' z h=>cO (by rfl) (dO t' z h)) rfl aa)) (trivial))
 refine bO (n:=0) acf ?_
 refine bg acf ?_
 refine jl [8] [1,2,3,8,10,11,12,13,43] [10,12] ?_
 refine YY 43 J ?_ ?_<;>intro h3<;>try simp only[dq] at h3
 refine wZ [15] ?_
 refine cK J J ?_;rotate_left
 refine wA [6,1000,6,9002] [1,2,3,8,10,11] [10] ?_
 exact⟨_,⟨i+1,rfl,ace,gD au (decide_eq_true ace),by rw[take_succ ace,Z8,Z8];rfl⟩,ace⟩
 refine wZ [14] ?_
 refine cK J J ?_;rotate_left
 all_goals
  first
   | (rw[(mU ach).1,(mU ach).2];exact⟨rfl,rfl⟩)
   | (rw[(oV (i:=i) ach ace au ach).1,(oV (i:=i) ach ace au ach).2];exact⟨rfl,rfl⟩)
   | (rw[(oW (i:=i) ach ace au).1,(oW (i:=i) ach ace au).2];exact⟨rfl,rfl⟩)
abbrev Yg:=dU 2 Tryz.func50
theorem uJ {w:List Int}(hw:w.length≤1099511627776):aq Tryz.prog 50 [ints w] (.p (aj (qb w))):=by
 refine cF Yg fun w0 M0 aa=>?_
 refine c6 [8,0,0] [0,8] [] ?_
 refine oS J (FA J J J J Tryz.underlying149 ZP J J (by first|(simp only[ll];omega)|omega) (by first|(simp only[ll];omega)|omega) (by first|(simp only[ll];omega)|omega) aa) J ?_
 refine wA [7,4] [3,10,11,12] [9] ?_
 refine lp (fun zm zs=>∃i:Nat,zm=w.length-i∧(i≤w.length)∧(∀j,j<i→EB (w.getD j default)=true)∧zs=⟨30,[(3,.own 9),(10,vvz (ints w)),(11,vvw (int w.length)),(12,vvw (int i))],[(9,.arr 5 ((w.take i).map Hb))]⟩) ?_ ?_
 exact⟨_,0,rfl,Z5 _,fun j hj=>absurd hj ace,rfl⟩
 rintro zm zs ⟨i,rfl,aZ,au,rfl⟩
 have hlr:(w.take i).length=i:=by rw[aaa];omega
 refine wS [3006] [3,10,11,12,13] [9] ?_ ?_<;>intro h1
 refine wS [7,4010] [3,5,10,11,12,18] [9] ?_ ?_<;>intro h2'
 refine wZ [8018] ?_;rotate_left
 refine wS [3005] [3,5,10,11,12,21] [9] ?_ ?_<;>intro h3
 refine wZ [8013] ?_;rotate_left
 refine wA [6] [10,11,12,22,23] [9] ?_
 refine oP J (dF (a':=(w.getD i default)) (nn J Tryz.underlying3 Tryz.underlying5 J) (by exact Wq ace)) ?_
 refine wA [0,1000,5,9002] [3,10,11,12] [9] ?_
 exact⟨_,⟨i+1,rfl,ace,gD au (by unfold EB;rw[decide_eq_true ace,decide_eq_true ace];rfl),by rw[take_succ ace,Z8];rfl⟩,ace⟩
 refine wA [9] [28] [9] ?_
 refine oP J (Fk J Tryz.underlying149 Tryz.underlying5 Tryz.underlying9 J) ?_
 refine wZ [8004] ?_;rotate_left
 all_goals
  first|(rw[TA (i:=i) ace (by unfold EB;first|(rw[decide_eq_false ace];rfl)|(rw[decide_eq_false (p:=w.getD i default<64) ace,abi]))];rfl)|(rw[Qr (i:=i) ace au])
abbrev TB:=dU 2 Tryz.func83
theorem yu {c:Nat}:aq Tryz.prog 83 [.sc (.slice none 0 c)] (.fresh 9 []):=by
 refine cF TB fun w0 M0 aa=>?_
 refine c6 [1002,6] [0,3] [] ?_
 refine oP J (qm J Tryz.underlying27 J J) ?_
 refine wZ [1005,8004] ?_
 rfl
theorem ED {a:Addr}{c:Nat}:aq Tryz.prog 83 [.sc (.slice (some a) 0 c)] (.fresh 9 []):=by
 refine cF TB fun w0 M0 aa=>?_
 refine c6 [1002,6] [0,3] [] ?_
 refine oP J (qm J Tryz.underlying27 J J) ?_
 refine wA [1007,1] [5,6] [5] ?_
 refine oS J (step_append J J J J Tryz.underlying27 Uz J J aa (Hc J) acg acg) J ?_
 refine wZ [8004] ?_
 rfl
theorem EE {l:List (List UInt8)}(hl:l.length≤1048576)(h0:0<l.length):aq Tryz.prog 83 [strs l] (.fresh 9 (l.map aj)):=by
 refine cF TB fun w0 M0 aa=>?_
 refine c6 [1002,6] [0,3] [] ?_
 refine oP J (sG J Tryz.underlying27 J J (by simp only[Z0];exact h0)) ?_
 refine wA [1007,1] [5,6] [5] ?_
 refine oS J (step_append J J J J Tryz.underlying27 Uz J J aa (sE J (fun _=>⟨_,rfl⟩)) (by simp only[Z0,Z9];omega) (by simp only[Z0,Z9];omega)) J ?_
 refine wZ [8004] ?_
 rfl
theorem EF {l:List (List UInt8)}(hl:l.length≤1048576):aq Tryz.prog 83 [strs l] (.fresh 9 (l.map aj)):=by
 rcases abb l.length with h|h
 · have hl0 : l = [] := aak h
   subst hl0
   refine⟨(yu (c:=0)).1,fun w vs hv hr=>?_⟩
   match vs,hv with
   | [v], _ =>
     have h0:=hr 0 _ rfl
     simp only[List.getD_cons_zero] at h0
     generalize hq:strs []=q at h0
     cases h0 with
     | sl a n cap xs k cv hn hc hk hb hl2 hr2 =>
       simp only[strs,aa9,AV.sl.injEq] at hq
       subst hq
       simp only[Z9] at hn
       subst hn
       have one:∀z:Value,z.oneCell'=true→∀(j:Nat) d,[AV.sc z][j]?=some d→bJ w (fun _=>False) ([z].getD j undef) d:=fun z hz j d hd=>by
         match j with
         | 0=>simp at hd;subst hd;exact .sc _ hz
         | j+1=>simp at hd
       cases a with
       | none=>exact(yu (c:=cap)).2 w [.slice none 0 cap] rfl (one _ rfl)
       | some ad=>exact(ED (a:=ad) (c:=cap)).2 w [.slice (some ad) 0 cap] rfl (one _ rfl)
     | _=>cases hq
 · exact EE hl h
theorem Yh:tP Tryz.prog 51 Tryz.f51.ntmps 2 64 4 (Tryz.f51.body.getD .skip):=⟨Tryz.f51,Tryz.func51,rfl,rfl,rfl,acf,PO,F7⟩
theorem EG {f:aY}(hf:J5 f):aX Tryz.prog 51 [iG f] (.p (iG f)):=by
 have hf1:=hf.ah
 have hf2:=hf.cuts
 have hf3:=hf.rules
 refine bk Yh (ZZ J) fun w0 M0 aa=>?_
 refine c6 [1002,4] [1,2] [1,2] ?_
 refine bw (n:=16) 3 (fun p=>[10,12,14].getD p 0) (fun p=>[[(1,.box 64 [vvw (aj f.cell),vvw (ints f.ah),vvw (ints f.cuts),vvw (strs f.rules)]),(2,.box 64 [vvw (.sc (.string ⟨#[]⟩)),vvv,vvv,vvv])],[(1,.box 64 [vvw (aj f.cell),vvw (ints f.ah),vvw (ints f.cuts),vvw (strs f.rules)]),(2,.box 64 [vvw (.sc (.string ⟨#[]⟩)),vvv,vvv,vvv])],[(1,.box 64 [vvw (aj f.cell),vvw (ints f.ah),vvw (ints f.cuts),vvw (strs f.rules)]),(2,.box 64 [vvw (.sc (.string ⟨#[]⟩)),vvv,vvv,vvv])],[(1,.box 64 [vvw (aj f.cell),vvw (ints f.ah),vvw (ints f.cuts),vvw (strs f.rules)]),(2,.box 64 [vvw (.sc (.string ⟨#[]⟩)),vvv,vvv,vvv])]].getD p []) 15 [(0,some [0]),(1,some [0]),(2,none),(3,some [0]),(4,some [0]),(5,none),(6,some [0]),(7,some [0]),(8,none),(9,some [0]),(11,some [1]),(13,some [2])] [(3,.pbox 1 1),(4,vvw (ints f.ah)),(5,vvw (ints f.ah)),(6,.pbox 1 2),(7,vvw (ints f.cuts)),(8,vvw (ints f.cuts)),(9,.pbox 1 3),(10,vvw (strs f.rules)),(11,vvw (strs f.rules)),(12,.pbox 1 1),(13,.pbox 1 2),(14,.pbox 1 3),(1,.pbox 1 0),(2,.pbox 2 0)] mixed acf acf acf acf acf ?_ (fun t d h=>h) J ?_ ?_ ?_
 ·rfl
 ·exact
  ai (ai ((aK J F8 J J)) (trivial)) (
  ai (ai ((ae J F5 J J J)) (trivial)) (
  ai (fun _=>(bC J J J ((aq.weaken (fb (l:=f.ah) ace))) aa)) (
  ai (ai ((aK J F9 J J)) (trivial)) (
  ai (ai ((ae J F5 J J J)) (trivial)) (
  ai (fun _=>(bC J J J ((aq.weaken (fb (l:=f.cuts) ace))) aa)) (
  ai (ai ((aK J Ng J J)) (trivial)) (
  ai (ai ((ae J Xy J J J)) (trivial)) (
  ai (fun _=>(bC J J J ((aq.weaken (EF (l:=f.rules) ace))) aa)) (
  ai (ai ((aK J F8 J J)) (trivial)) (
  ai (ai ((aK J F9 J J)) (trivial)) (
  ai (ai ((aK J Ng J J)) (trivial)) (
  trivial))))))))))))
 ·exact ai (fun X fl dO dh=>cr rfl (cq (u:=12) (v:=5) (id:=1) rfl rfl fl BP ((dh 12 acg).trans rfl) rfl ((dh 5 acg).trans rfl) rfl acg rfl rfl (fun t' z h=>cO (by rfl) (dO t' z h)) rfl aa)) (ai (fun X fl dO dh=>cr rfl (cq (u:=13) (v:=8) (id:=1) rfl rfl fl BP ((dh 13 acg).trans rfl) rfl ((dh 8 acg).trans rfl) rfl acg rfl rfl (fun t' z h=>cO (by rfl) (dO t' z h)) rfl aa)) (ai (fun X fl dO dh=>cr rfl (cq (u:=14) (v:=11) (id:=1) rfl rfl fl UB ((dh 14 acg).trans rfl) rfl ((dh 11 acg).trans rfl) rfl acg rfl rfl (fun t' z h=>cO (by rfl) (dO t' z h)) rfl aa)) (trivial)))
 refine bO (n:=0) acf ?_
 refine bg acf ?_
 refine Cx [8] ?_
 refine aA J ?_
 rfl
end Go.Proofs.YtlapahnodhmcpaaGreat
