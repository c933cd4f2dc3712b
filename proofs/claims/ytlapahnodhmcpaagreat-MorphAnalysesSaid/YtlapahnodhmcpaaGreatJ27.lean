/-
  Part of the proof.
-/
import Derived.Test.YtlapahnodhmcpaaGreatJ0
import Derived.Test.YtlapahnodhmcpaaGreatJ16
import Derived.Test.YtlapahnodhmcpaaGreatJ17
import Derived.Test.YtlapahnodhmcpaaGreatJ25
import Derived.Test.YtlapahnodhmcpaaGreatJ26
import Derived.Test.YtlapahnodhmcpaaGreatJ24
import Derived.Test.YtlapahnodhmcpaaGreatJ8
import Derived.Test.YtlapahnodhmcpaaGreatJ9
import Derived.Test.YtlapahnodhmcpaaGreatJ21
set_option linter.unusedVariables false
set_option linter.unusedSectionVars false
set_option linter.unusedSimpArgs false
set_option maxRecDepth 100000
set_option maxHeartbeats 40000000
namespace Go.Proofs.YtlapahnodhmcpaaGreat
open Go.Am Go.Wb
theorem D7 {P:Program}{w0:Fr}{M0:Nat→Prop}{o:Oper}{ρ:Operand→Option SV}{ob:List (Nat×Ob)}{c:fQ}{l:List Rx}(h:Pure P w0 M0 o ρ ob (.v c (.sl (Rx.gi l)))):Pure P w0 M0 o ρ ob (.v c (gJ l)):=by
 rw[xi] at h;exact h
abbrev RI:=dU 4 Tryz.func254
theorem JP {x y:Rx}(hx:x.size≤1099511627776)(hy:y.size≤1099511627776):aq Tryz.prog 254 [rx x,rx y] (.p (bool (Hn x y))):=by
 refine cF RI fun w0 M0 aa=>?_
 refine c6 [2,0,7] [5,6] [] ?_
 refine oC J J J J (tj _ _ _ (Z1 _) hy hx) ?_
 refine wZ [8005] ?_
 rfl
theorem nJ:cd Tryz.prog 252:=⟨Tryz.f252,Tryz.func252,acf,acf⟩
theorem RJ:tP Tryz.prog 235 Tryz.f235.ntmps 2 87 3 (Tryz.f235.body.getD .skip):=⟨Tryz.f235,Tryz.func235,rfl,rfl,rfl,acf,iC,bX⟩
theorem Nx {l:List Rx}(hs:Rx.aB l≤549755813888):aX Tryz.prog 235 [gJ l] (.p (rx (gN l))):=by
 have hl:=dj l
 have hbd:=L4 l
 have hM:=xy (c5 l) (dP l)
 have ZQ:=dj (j5 (c5 l) (dP l))
 have Lo:=dj (dP l)
 have P8:∀z∈j5 (c5 l) (dP l),z.size≤1099511627776:=fun z hz=>by have:=gp hz;omega
 have ZR:(dS l).length≤1099511627776:=by
   have h1:=vX (eq:=Hn) (l:=jU (j5 (c5 l) (dP l)))
   rw[qw] at h1
   show(sj _ _).length≤_
   omega
 have Vr:=qv (c5 l)
 refine bk RJ (ZZ J) fun w0 M0 aa=>?_
 refine c6 [17,5] [0,2,3,4,5] [2,3,4] ?_
 refine bL 3 0 11 87 85 aa J J J J ?_
 refine bL 4 0 10 3 22 aa J J J J ?_
 refine gS [2,4] [2,3,4,5,11,12,13] [2,3,4,10,11] ?_
 refine lp (fun zm zs=>∃i:Nat,zm=l.length-i∧(i≤l.length)∧zs=⟨81,[(2,.pbox 2 0),(3,.pbox 3 0),(4,.pbox 4 0),(5,.fn 249 [.bx 4,.bx 3]),(11,vvw (gJ l)),(12,vvw (int l.length)),(13,vvw (int i))],[(2,.box 87 [vvw (.sc (.int .i64 0)),vvv,vvv]),(3,.box 85 [.own 11]),(4,.box 22 [.own 10]),(10,.arr 3 ((c4 (aW (l.take i))).map int)),(11,.arr 87 ((eW (aW (l.take i))).map rx))]⟩) ?_ ?_
 exact⟨_,0,rfl,Z5 _,rfl⟩
 rintro zm zs ⟨i,rfl,aZ,rfl⟩
 have hb1:=vW (aW (l.take i))
 have hb2:=kr (l.take i)
 have hb3:=gB l i
 have hb4:=dj (eW (aW (l.take i)))
 have hb5:=fun(h:i<l.length)=>gp (aP h)
 have hb6:=eA (l.getD i default)
 have hb7:=je l i
 have hb8:=fun(h:i<l.length)=>xj h
 have hb10:=dX (l.getD i default)
 have hb9:=size_eq (l.getD i default)
 refine wS [3006] [2,3,4,5,11,12,13,14] [2,3,4,10,11] ?_ ?_<;>intro h1
 refine wS [7,3013] [2,3,4,5,7,11,12,13,19] [2,3,4,7,10,11] ?_ ?_<;>intro h2
 refine wA [5] [2,3,4,5,11,12,13,20,21] [2,3,4,10,11] ?_
 refine oS J (aO [(1000001,4),(1000002,3)] J J J J J J J (tl (x:=l.getD i default) (s:=c4 (aW (l.take i))) (k:=eW (aW (l.take i))) ace ace) ⟨.inl J,.inl J,.inl J,trivial⟩ ⟨rfl,rfl,rfl,rfl,trivial⟩ J J J J J aa) J ?_
 refine wA [7,9002] [2,3,4,5,11,12,13] [2,3,4,10,11] ?_
 refine⟨_,⟨i+1,rfl,ace,?_⟩,ace⟩
 rw[nw ace,jo ace,qt,qu];rfl
 refine wA [6] [2,3,4,5,11,12,13,23] [2,3,4,7,10,11] ?_
 refine oP J (D7 (ae J JD J J J)) ?_
 refine wA [0,4] [2,3,4,5,11,12,13,24,25,26] [2,3,4,10,11] ?_
 refine lp (fun zm zs=>∃j:Nat,zm=(l.getD i default).kids.length-j∧(j≤(l.getD i default).kids.length)∧zs=⟨81,[(2,.pbox 2 0),(3,.pbox 3 0),(4,.pbox 4 0),(5,.fn 249 [.bx 4,.bx 3]),(11,vvw (gJ l)),(12,vvw (int l.length)),(13,vvw (int i)),(24,vvw (gJ (l.getD i default).kids)),(25,vvw (int (l.getD i default).kids.length)),(26,vvw (int j))],[(2,.box 87 [vvw (.sc (.int .i64 0)),vvv,vvv]),(3,.box 85 [.own 11]),(4,.box 22 [.own 10]),(10,.arr 3 ((c4 (aW (l.take i)++(l.getD i default).kids.take j)).map int)),(11,.arr 87 ((eW (aW (l.take i)++(l.getD i default).kids.take j)).map rx))]⟩) ?_ ?_
 refine⟨_,0,rfl,Z5 _,?_⟩
 rw[acd,aav];rfl
 rintro zm zs ⟨j,rfl,fU,rfl⟩
 have hc0:=hb5 ace
 have hc8:=hb8 ace
 have hc1:=vW (aW (l.take i)++(l.getD i default).kids.take j)
 rw[ef] at hc1
 have hc2:=gB (l.getD i default).kids j
 have hc3:=dj (eW (aW (l.take i)++(l.getD i default).kids.take j))
 have hc4:=fun(h:j<(l.getD i default).kids.length)=>gp (aP h)
 have hc5:=eA ((l.getD i default).kids.getD j default)
 refine wS [3006] [2,3,4,5,11,12,13,24,25,26,27] [2,3,4,10,11] ?_ ?_<;>intro h3
 refine wA [7,8] [2,3,4,5,11,12,13,24,25,26,30,31] [2,3,4,10,11] ?_
 refine oS J (aO [(1000001,4),(1000002,3)] J J J J J J J (tl (x:=(l.getD i default).kids.getD j default) (s:=c4 (aW (l.take i)++(l.getD i default).kids.take j)) (k:=eW (aW (l.take i)++(l.getD i default).kids.take j)) ace ace) ⟨.inl J,.inl J,.inl J,trivial⟩ ⟨rfl,rfl,rfl,rfl,trivial⟩ J J J J J aa) J ?_
 refine wA [4,9002] [2,3,4,5,11,12,13,24,25,26] [2,3,4,10,11] ?_
 refine⟨_,⟨j+1,rfl,ace,?_⟩,ace⟩
 rw[zV ace,zW ace];rfl
 refine wA [8,9002] [2,3,4,5,11,12,13] [2,3,4,10,11] ?_
 refine⟨_,⟨i+1,rfl,ace,?_⟩,ace⟩
 rw[nw ace,gF ace,show(l.getD i default).kids.take j=(l.getD i default).kids from aaj ace];rfl
 refine wA [6] [2,3,4] [2,3,4,10,11] ?_
 refine ct (fun zs=>zs=⟨81,[(2,.pbox 2 0),(3,.pbox 3 0)],[(2,.box 87 [vvw (.sc (.int .i64 0)),vvv,vvv]),(3,.box 85 [.own 11]),(11,.arr 87 ((j5 (c5 l) (dP l)).map rx))]⟩) ?_ ?_
 refine wA [1] [2,3,4] [2,3,4,10,11] ?_
 rw[show l.take i=l from aaj ace]
 refine wS [2,3003] [2,3,4,37] [2,3,4,10,11] ?_ ?_<;>intro h4
 refine wA [4] [2,3,4,38] [2,3,4,10,11] ?_
 refine oS J (w9 Nw J J J J J J y3 (by have h1:=vW (aW l);have h2:=kr l;omega) aa) J ?_
 refine wA [2] [2,3,4] [2,3,4,10,11] ?_
 rw[vd]
 refine kl (n:=81) (o2:=[(2,.box 87 [vvw (.sc (.int .i64 0)),vvv,vvv]),(3,.box 85 [.own 11]),(11,.arr 87 ((dP l).map rx))]) 2 6 [(40,.own 11),(41,.own 10),(42,vvw (ints (sj OC (jD (c5 l))))),(43,vvw (rx (.mk 2 (sj OC (jD (c5 l))) []))),(44,vvw (int (dP l).length)),(45,vvw (.sl [.agg [int 0,.sc (.slice none 0 0),.sc (.slice none 0 0)]])),(2,.pbox 2 0),(3,.pbox 3 0),(4,.pbox 4 0)] mixed acf acf acf J acf (fun t d h=>h) J ?_ ?_ ?_ ?_ ?_
 · intro i hi
   rcases(by omega:i=0∨i=1∨i=2∨i=3∨i=4∨i=5) with rfl|rfl|rfl|rfl|rfl|rfl<;>exact⟨_,_,rfl,rfl⟩
 · intro i o t d hi hia ho hd hG hn
   rcases(by omega:i=0∨i=1∨i=3∨i=4∨i=5) with rfl|rfl|rfl|rfl|rfl
   · injection (show some _ = some o from ho) with ho; subst ho; injection (show some _ = some t from hd) with hd; subst hd; injection (show some _ = some d from hG) with hG; subst hG
     exact ae J JD J J J
   · injection (show some _ = some o from ho) with ho; subst ho; injection (show some _ = some t from hd) with hd; subst hd; injection (show some _ = some d from hG) with hG; subst hG
     exact ae J F5 J J J
   · exact absurd hn acg
   · injection (show some _ = some o from ho) with ho; subst ho; injection (show some _ = some t from hd) with hd; subst hd; injection (show some _ = some d from hG) with hG; subst hG
     exact gy J Tryz.underlying85 J
   · injection (show some _ = some o from ho) with ho; subst ho; injection (show some _ = some t from hd) with hd; subst hd; injection (show some _ = some d from hG) with hG; subst hG
     exact bY J Tryz.underlying85 jr J J J J aa
 · intro i o t d hi hia ho hd hG hn
   rcases(by omega:i=0∨i=1∨i=3∨i=4∨i=5) with rfl|rfl|rfl|rfl|rfl
   · injection (show some _ = some o from ho) with ho; subst ho; injection (show some _ = some t from hd) with hd; subst hd; injection (show some _ = some d from hG) with hG; subst hG
     exact ae J JD J J J
   · exact absurd hn acg
   · injection (show some _ = some o from ho) with ho; subst ho; injection (show some _ = some t from hd) with hd; subst hd; injection (show some _ = some d from hG) with hG; subst hG
     exact aC (aF J Ga oI J J J) J
   · injection (show some _ = some o from ho) with ho; subst ho; injection (show some _ = some t from hd) with hd; subst hd; injection (show some _ = some d from hG) with hG; subst hG
     exact gy J Tryz.underlying85 J
   · injection (show some _ = some o from ho) with ho; subst ho; injection (show some _ = some t from hd) with hd; subst hd; injection (show some _ = some d from hG) with hG; subst hG
     exact bY J Tryz.underlying85 jr J J J J aa
 · intro o X ho fl dO dh
   have Tl:41∈looks _ o→X.lookup 41=some (.own 10):=fun h=>(dh 41 h).trans rfl
   injection (show some _=some o from ho) with ho'
   obtain⟨s',g1,g2⟩:=CY (o:=o) (f:=122) (ats:=#[22]) (n:=81) (X:=X) (o1:=[(2,.box 87 [vvw (.sc (.int .i64 0)),vvv,vvv]),(3,.box 85 [.own 11]),(4,.box 22 [.own 10]),(10,.arr 3 ((jD (c5 l)).map int)),(11,.arr 87 ((dP l).map rx))]) (o2:=[(2,.box 87 [vvw (.sc (.int .i64 0)),vvv,vvv]),(3,.box 85 [.own 11]),(11,.arr 87 ((dP l).map rx))]) (t:=42) (u:=41) (id:=10) (by rw[←ho'];rfl) (by rw[←ho'];rfl) rfl rfl (Tl (by rw[←ho'];decide)) fl rfl (oO (l:=jD (c5 l)) ace) (fun t' d h hne=>C0 (u:=41) (by rfl) (dO t' d h) hne) rfl (IU.out (o1:=[(2,.box 87 [vvw (.sc (.int .i64 0)),vvv,vvv]),(3,.box 85 [.own 11]),(4,.box 22 [.own 10]),(10,.arr 3 ((jD (c5 l)).map int)),(11,.arr 87 ((dP l).map rx))]) (o2:=[(2,.box 87 [vvw (.sc (.int .i64 0)),vvv,vvv]),(3,.box 85 [.own 11]),(11,.arr 87 ((dP l).map rx))]) ⟨⟨_,rfl,rfl⟩,⟨_,rfl,rfl⟩,⟨_,rfl,rfl⟩,trivial⟩) aa
   exact⟨42,_,s',by rw[←ho'];rfl,rfl,g1,g2⟩
 refine bO (n:=4) acf ?_
 refine xf 6 ?_
 refine eJ (i:=7) (j:=9) acf J J J J (aL J J (aD J Tryz.underlying85 bX J J J (by first|(simp only[ll];omega)|omega))) (aU J J J BS J J J J J aa) ?_ ?_
 refine eJ (i:=8) (j:=9) acf J J J J (ay J J J bX J J (iA rx (dP l) _) J J (.inl J) J (ZZ J) aa) (aU J J J BS J J J J J aa) ?_ ?_
 refine aH (i:=9) acf J J (aU J J J BS J J J J J aa) ?_
 refine bg acf ?_
 refine jl [10000] [2,3] [2,3,11] ?_;rotate_left
 refine aH (i:=8) acf J J (ay J J J bX J J (iA rx (dP l) _) J J (.inl J) J (ZZ J) aa) ?_
 refine bg acf ?_
 refine jl [10000] [2,3] [2,3,11] ?_;rotate_left
 refine xe 7 ?_
 refine aH (i:=8) acf J J (ay J J J bX J J (iA rx (dP l) _) J J (.inl J) J (ZZ J) aa) ?_
 refine bg acf ?_
 refine jl [10000] [2,3] [2,3,11] ?_;rotate_left
 refine wA [10002] [2,3] [2,3,11] ?_
 rw[L1 (by show ¬0<(c4 (aW l)).length;omega)];rfl
 rintro zs ⟨rfl⟩
 refine wA [3] [2,3,48] [2,3,11] ?_
 refine oS J (xM (cells:=WI) (cf:=de) (p:=fun z=>z.size≤1099511627776) Nv J J J J J J J bX acg P8 (fun a b ha hb=>tj _ a b (Z1 _) hb ha) nJ (fun a _=>xt a) (fun a b c _ _ _=>kq a b c) (fun a b _ _=>Dl) ace aa) J ?_
 refine wA [3] [2,3] [2,3,11] ?_
 rw[u9]
 refine wA [2] [2,3,50] [2,3,11] ?_
 refine oS J (aO [(0,11)] J J J J J J J (rk (eq:=Hn) (l:=jU (j5 (c5 l) (dP l))) (by rw[qw];omega) (fun x hx y hy=>JP (P8 _ (lF.1 hx)) (P8 _ (lF.1 hy)))) ⟨.inl J,.inl J,trivial⟩ ⟨rfl,trivial⟩ J J J J J aa) J ?_
 refine kj 81 [(2,_),(3,_),(51,_)] [(2,_),(3,_)] aa J ⟨.inl J,.inl J,.inr ⟨_,_,rfl,rfl,rfl⟩,trivial⟩ ⟨rfl,rfl,trivial⟩ ?_
 refine WH [3] [2,3] [2,3] ?_
 refine ct (fun zs=>zs=⟨81,[(2,.pbox 2 0),(3,.pbox 3 0)],[(2,.box 87 [vvw (.sc (.int .i64 0)),vvv,vvv]),(3,.box 85 [vvw (gJ (j6 (dS l)))])]⟩) ?_ ?_
 refine wS [3,4002] [2,3,55] [2,3] ?_ ?_<;>intro h5'
 refine wS [1,4005] [2,3,62] [2,3] ?_ ?_<;>intro h6'
 refine wZ [1,5000] ?_
 refine oC J J J J (gC (p:=cP) (l:=(dS l).drop 1) (by simp;omega) (fun x hx=>Gg _ _ (Z1 _) (P8 _ (sW (aaE hx))))) ?_
 refine wS [3003] [2,3,66] [2,3] ?_ ?_<;>intro h7
 refine wA [3,10002] [2,3] [2,3] ?_;rotate_left
 refine wA [10002] [2,3] [2,3] ?_;rotate_left
 refine wA [10008] [2,3] [2,3] ?_;rotate_left
 refine wA [10015] [2,3] [2,3] ?_;rotate_left
 rintro zs ⟨rfl⟩
 refine wS [4,3009] [2,3,70,71] [2,3] ?_ ?_<;>intro h8
 refine wZ [10] ?_
 refine aA J ?_;rotate_left
 refine wS [3007] [2,3,74] [2,3] ?_ ?_<;>intro h9
 refine wZ [4,7] ?_
 refine aA J ?_;rotate_left
 refine wZ [12] ?_
 refine aA J ?_;rotate_left
 all_goals first
  | (
    have h4u:0<(c5 l).length:=by show 0<(c4 (aW l)).length;omega
    rw[L0 h4u,←xo (z:=.agg [int 0,.sc (.slice none 0 0),.sc (.slice none 0 0)])];rfl;done)
  | (
    first
      | (rw[xw (k:=dS l) (by show 1<(sj Hn (jU (j5 (c5 l) (dP l)))).length;omega) h6' h7];rfl)
      | (rw[lW (k:=dS l) (fun q=>absurd q.1 (by show ¬1<(sj Hn (jU (j5 (c5 l) (dP l)))).length;omega))];rfl)
      | (rw[lW (k:=dS l) (fun q=>h6' q.2.1)];rfl)
      | (rw[lW (k:=dS l) (fun q=>by rw[q.2.2] at h7;cases h7)];rfl);done)
  | (
    first
      | (rw[show gN l=dG from FI (k:=j6 (dS l)) ace];rfl)
      | (rw[show gN l=_ from Bu (k:=j6 (dS l)) ace];rfl)
      | (rw[show gN l=_ from xv (k:=j6 (dS l)) ace ace,mE];rfl);done)
theorem wq {P:Program}{w0:Fr}{M0:Nat→Prop}{s:St}{y:Operand}{l:List Rx}(hy:Am.viewAt s.ev s.o y=some (.pl,.sl (Rx.gi l))):Src P w0 M0 s y 3 (l.map rx):=by
 rw[xi] at hy;exact gI hy (fun _=>rfl)
theorem XO:tP Tryz.prog 69 Tryz.f69.ntmps 2 87 3 (Tryz.f69.body.getD .skip):=⟨Tryz.f69,Tryz.func69,rfl,rfl,rfl,acf,iC,bX⟩
theorem mf (s:List Int):aX Tryz.prog 69 [ints s] (.p (rx (.mk 2 s []))):=by
 refine bk XO (ZZ J) fun w0 M0 aa=>?_
 refine zM [13] ?_
 refine aA J ?_
 rfl
theorem XP:tP Tryz.prog 92 Tryz.f92.ntmps 4 87 3 (Tryz.f92.body.getD .skip):=⟨Tryz.f92,Tryz.func92,rfl,rfl,rfl,acf,iC,bX⟩
theorem B0 (k:Int)(l:List Rx):aX Tryz.prog 92 [int k,gJ l] (.p (rx (.mk k [] l))):=by
 refine bk XP (ZZ J) fun w0 M0 aa=>?_
 refine zM [14] ?_
 refine aA J ?_
 rw[mE];rfl
theorem RK:tP Tryz.prog 234 Tryz.f234.ntmps 2 87 3 (Tryz.f234.body.getD .skip):=⟨Tryz.f234,Tryz.func234,rfl,rfl,rfl,acf,iC,bX⟩
theorem tm {l:List Rx}(hs:Rx.aB l≤1099511627776):aX Tryz.prog 234 [gJ l] (.p (rx (cU l))):=by
 have hl:=dj l
 refine bk RK (ZZ J) fun w0 M0 aa=>?_
 refine c6 [1007,6,4] [2,3,6,7,8] [2,3] ?_
 refine lp (fun zm zs=>∃i:Nat,zm=l.length-i∧(i≤l.length)∧(∀j,j<i→(l.getD j default).kind≠0)∧zs=⟨42,[(2,.pbox 2 0),(3,.own 3),(6,vvw (gJ l)),(7,vvw (int l.length)),(8,vvw (int i))],[(2,.box 87 [vvw (.sc (.int .i64 0)),vvv,vvv]),(3,.arr 87 ((ek (l.take i)).map rx))]⟩) ?_ ?_
 exact⟨_,0,rfl,Z5 _,fun j hj=>absurd hj ace,rfl⟩
 rintro zm zs ⟨i,rfl,aZ,au,rfl⟩
 have hroom:=fun h=>zQ (l:=l) (i:=i) h
 refine wS [3006] [2,3,6,7,8,9] [2,3] ?_ ?_<;>intro h1
 refine wS [7,3018] [2,3,5,6,7,8,13,18] [2,3,5] ?_ ?_<;>intro h2
 refine wZ [14] ?_
 refine aA J ?_;rotate_left
 refine wS [3007] [2,3,5,6,7,8,13,21] [2,3,5] ?_ ?_<;>intro h3
 refine wA [6,9002] [2,3,6,7,8] [2,3] ?_;rotate_left
 refine wS [3007] [2,3,5,6,7,8,23] [2,3,5] ?_ ?_<;>intro h4
 refine wA [1] [2,3,5,6,7,8] [2,3,5] ?_
 have hr:=hroom ace
 refine wA [4] [2,6,7,8,25,27] [2,3] ?_
 refine oS J (step_append J J J J Tryz.underlying85 jr J J aa (wq (l:=(l.getD i default).kids) J) (by first|(simp only[ll];omega)|omega) (by first|(simp only[ll];omega)|omega)) J ?_
 refine wA [6,9002] [2,3,6,7,8] [2,3] ?_;rotate_left
 refine wA [1] [2,3,5,6,7,8] [2,3,5] ?_
 have hr:=hroom ace
 refine wA [3,1000,6,9002] [2,3,6,7,8] [2,3] ?_;rotate_left
 refine wS [10,3009] [2,3,31,32] [2,3] ?_ ?_<;>intro h5
 refine wZ [10] ?_
 refine aA J ?_;rotate_left
 refine wS [3007] [2,3,35] [2,3] ?_ ?_<;>intro h6
 refine wZ [4,0,6] ?_
 refine aA J ?_;rotate_left
 refine wA [5] [2,3] [2,3] ?_
 refine aS 42 [(2,_),(3,_)] [(2,_)] aa J ⟨.inl J,.inr ⟨_,_,rfl,rfl,rfl⟩,trivial⟩ ⟨rfl,trivial⟩ ?_
 refine Cw [7] ?_
 refine aA J ?_;rotate_left
 all_goals first
  | (
    first|(rw[tX (i:=i) ace ace];rfl)|(rw[nu (fun j hj=>au j ace)];rw[show ek l=ek (l.take i) by rw[aaj ace]];first|(rw[FF ace];rfl)|(rw[FG ace];rfl)|(rw[rO ace ace,mE];rfl));done)
  | (
    exact⟨_,⟨i+1,rfl,ace,b7 au ace,by rw[tW ace];first|(rw[lV ace,aav];rfl)|(rw[iK ace,Z8];rfl)|(rw[eh ace ace,Z8];rfl)⟩,ace⟩;done)
abbrev Tm:=dU 2 Tryz.func48
theorem AA {c:Nat}:aq Tryz.prog 48 [.sc (.slice none 0 c)] (.fresh 3 []):=by
 refine cF Tm fun w0 M0 aa=>?_
 refine c6 [1002,6] [0,3] [] ?_
 refine oP J (qm J Tryz.underlying22 J J) ?_
 refine wZ [1005,8004] ?_
 rfl
theorem Gm {a:Addr}{c:Nat}:aq Tryz.prog 48 [.sc (.slice (some a) 0 c)] (.fresh 3 []):=by
 refine cF Tm fun w0 M0 aa=>?_
 refine c6 [1002,6] [0,3] [] ?_
 refine oP J (qm J Tryz.underlying22 J J) ?_
 refine wA [1007,1] [5,6] [5] ?_
 refine oS J (step_append J J J J Tryz.underlying22 Ux J J aa (Hc J) acg acg) J ?_
 refine wZ [8004] ?_
 rfl
theorem Gn {l:List Int}(hl:l.length≤1099511627776)(h0:0<l.length):aq Tryz.prog 48 [ints l] (.fresh 3 (l.map int)):=by
 refine cF Tm fun w0 M0 aa=>?_
 refine c6 [1002,6] [0,3] [] ?_
 refine oP J (sG J Tryz.underlying22 J J (by simp only[Z0];exact h0)) ?_
 refine wA [1007,1] [5,6] [5] ?_
 refine oS J (step_append J J J J Tryz.underlying22 Ux J J aa (sE J (fun _=>⟨_,rfl⟩)) (by simp only[Z0,Z9];omega) (by simp only[Z0,Z9];omega)) J ?_
 refine wZ [8004] ?_
 rfl
theorem fb {l:List Int}(hl:l.length≤1099511627776):aq Tryz.prog 48 [ints l] (.fresh 3 (l.map int)):=by
 rcases abb l.length with h|h
 · have hl0 : l = [] := aak h
   subst hl0
   refine⟨(AA (c:=0)).1,fun w vs hv hr=>?_⟩
   match vs,hv with
   | [v], _ =>
     have h0:=hr 0 _ rfl
     simp only[List.getD_cons_zero] at h0
     generalize hq:ints []=q at h0
     cases h0 with
     | sl a n cap xs k cv hn hc hk hb hl2 hr2 =>
       simp only[ints,aa9,AV.sl.injEq] at hq
       subst hq
       simp only[Z9] at hn
       subst hn
       have one:∀z:Value,z.oneCell'=true→∀(j:Nat) d,[AV.sc z][j]?=some d→bJ w (fun _=>False) ([z].getD j undef) d:=fun z hz j d hd=>by
         match j with
         | 0=>simp at hd;subst hd;exact .sc _ hz
         | j+1=>simp at hd
       cases a with
       | none=>exact(AA (c:=cap)).2 w [.slice none 0 cap] rfl (one _ rfl)
       | some ad=>exact(Gm (a:=ad) (c:=cap)).2 w [.slice (some ad) 0 cap] rfl (one _ rfl)
     | _=>cases hq
 · exact Gn hl h
theorem Vs:tP Tryz.prog 236 Tryz.f236.ntmps 2 87 3 (Tryz.f236.body.getD .skip):=⟨Tryz.f236,Tryz.func236,rfl,rfl,rfl,acf,iC,bX⟩
theorem AB {x:Rx}(h4:x.kind=4→0<x.kids.length):aX Tryz.prog 236 [rx x] (.p (rx (lh x))):=by
 rw[fi x]
 refine bk Vs (ZZ J) fun w0 M0 aa=>?_
 refine rM [1002,3018] [1,2,4,5] [1,2] ?_ ?_<;>intro h1
 refine wZ [13] ?_
 refine aA J ?_;rotate_left
 refine wS [3006] [1,2,4,5] [1,2] ?_ ?_<;>intro h2
 refine wZ [10] ?_
 refine aA J ?_;rotate_left
 refine wS [3007] [1,2,9] [1,2] ?_ ?_<;>intro h3
 refine wZ [10] ?_
 refine aA J ?_;rotate_left
 refine wS [4011] [1,2,15] [1,2] ?_ ?_<;>intro h4'
 refine wS [2,3006] [1,2,22] [1,2] ?_ ?_<;>intro h5
 refine wS [5,8,3003] [1,2,30] [1,2] ?_ ?_<;>intro h6
 refine wZ [4,7,5] ?_
 refine aA J ?_;rotate_left
 refine wZ [6,5] ?_
 refine aA J ?_;rotate_left
 refine wZ [6,5] ?_
 refine aA J ?_;rotate_left
 refine wZ [15,5] ?_
 refine aA J ?_;rotate_left
 all_goals
  try simp only[Int.toNat_zero,Int.toNat_one,aad] at *
  first
   | (exfalso;omega)
   | (rw[vY ace];rfl)
   | (rw[vZ ace,fi x])
   | (rw[ov ace ace,qy ace,mE,Ho,fi x];rfl)
   | (rw[ov ace ace,v7 ace ace,mE,←xz];rfl)
   | (rw[ov ace ace,v8 ace ace,mE,Ho,Sl];rfl)
theorem RL:tP Tryz.prog 200 Tryz.f200.ntmps 4 87 3 (Tryz.f200.body.getD .skip):=⟨Tryz.f200,Tryz.func200,rfl,rfl,rfl,acf,iC,bX⟩
theorem x9 (t:Bool):∀(m:Nat)(r:Rx),r.size≤m→m≤137438953472→aQ r=true→aq Tryz.prog 200 [rx r,bool t] (.p (rx (aJ t r))):=by
 refine fun m=>Nat.strongRecOn m fun m ih=>?_
 intro r hm hmm hv
 have hl:=dX r
 have hsy:=eA r
 have hb:=vf t r.kids
 have hse:=size_eq r
 have hK:∀x∈r.kids.map (aJ t),Nf x:=fun x hx=>by
  obtain⟨y,hy,rfl⟩:=aao.1 hx
  exact pK t y (ib hv y hy)
 have h5l:r.kind=5→0<(r.kids.map (aJ t)).length:=fun h=>by rw[Z0,(ly hv h).2];decide
 have kb:∀i,i<r.kids.length→aq Tryz.prog 200 [rx (r.kids.getD i default),bool t] (.p (rx (aJ t (r.kids.getD i default)))):=fun i hi =>
  ih _ (aax (hU hi) hm) _ (Z1 _) (by have:=hU hi;omega) (ib hv _ (aP hi))
 rw[fi r]
 refine ez RL (ZZ J) fun w0 M0 aa=>?_
 refine c6 [2,1005,7,4] [1,2,4,5,9,10,11] [4,5] ?_
 refine lp (fun zm zs=>∃i:Nat,zm=r.kids.length-i∧(i≤r.kids.length)∧zs=⟨47,[(1,vvz (bool t)),(2,vvz (pz r)),(4,.pbox 4 0),(5,.own 5),(9,vvz (gJ r.kids)),(10,vvw (int r.kids.length)),(11,vvw (int i))],[(4,.box 87 [vvw (.sc (.int .i64 0)),vvv,vvv]),(5,.arr 87 (((r.kids.take i).map (aJ t)).map rx))]⟩) ?_ ?_
 exact⟨_,0,rfl,Z5 _,rfl⟩
 rintro zm zs ⟨i,rfl,aZ,rfl⟩
 refine wS [3006] [1,2,4,5,9,10,11,12] [4,5] ?_ ?_<;>intro h1
 refine wA [7,9] [1,2,4,9,10,11,15,16,17] [4,5] ?_
 refine oC J J J J (kb _ ace) ?_
 refine wA [0,1000,5,9002] [1,2,4,5,9,10,11] [4,5] ?_
 exact⟨_,⟨i+1,rfl,ace,by rw[bD ace,Z8,Z8];rfl⟩,ace⟩
 refine wA [8] [1,2,4,5] [4,5] ?_
 rw[show r.kids.take i=r.kids from aaj ace]
 refine wS [3012] [1,2,4,5,23,24] [4,5] ?_ ?_<;>intro h2
 refine wS [3007] [4,5,26] [4,5] ?_ ?_<;>intro h3
 refine wA [3] [4,5,27] [4,5] ?_
 refine oS J (Ah (cells:=WI) RG J J J J J J bX acg (by rw[Z0];omega) aa) J ?_
 refine wA [3] [4,5] [4,5] ?_
 refine aS 47 [(4,_),(5,_)] [(4,_)] aa J ⟨.inl J,.inr ⟨_,_,rfl,rfl,rfl⟩,trivial⟩ ⟨rfl,trivial⟩ ?_
 refine gS [2] [4,29] [4] ?_
 refine oN J J J J J (by first|exact tm (l:=(r.kids.map (aJ t)).reverse) (by rw[qA];omega)|exact tm (l:=r.kids.map (aJ t)) ace) ?_
 refine wZ [6] ?_
 refine aA J ?_;rotate_left
 refine wA [4] [4,5] [4,5] ?_
 refine aS 47 [(4,_),(5,_)] [(4,_)] aa J ⟨.inl J,.inr ⟨_,_,rfl,rfl,rfl⟩,trivial⟩ ⟨rfl,trivial⟩ ?_
 refine gS [2] [4,29] [4] ?_
 refine oN J J J J J (by first|exact tm (l:=(r.kids.map (aJ t)).reverse) (by rw[qA];omega)|exact tm (l:=r.kids.map (aJ t)) ace) ?_
 refine wZ [6] ?_
 refine aA J ?_;rotate_left
 refine wS [3007] [2,4,5,23,31] [4,5] ?_ ?_<;>intro h4
 refine wA [2] [4,5] [4,5] ?_
 refine aS 47 [(4,_),(5,_)] [(4,_)] aa J ⟨.inl J,.inr ⟨_,_,rfl,rfl,rfl⟩,trivial⟩ ⟨rfl,trivial⟩ ?_
 refine gS [2] [4,33] [4] ?_
 refine oN J J J J J (Nx (l:=r.kids.map (aJ t)) ace) ?_
 refine wZ [6] ?_
 refine aA J ?_;rotate_left
 refine wS [3007] [2,4,5,35] [4,5] ?_ ?_<;>intro h5
 refine wA [2] [4,5] [4,5] ?_
 refine aS 47 [(4,_),(5,_)] [(4,_)] aa J ⟨.inl J,.inr ⟨_,_,rfl,rfl,rfl⟩,trivial⟩ ⟨rfl,trivial⟩ ?_
 refine gS [2] [4,37] [4] ?_
 refine oP J (ee J Tryz.underlying85 bX J J (by have:=h5l ace;omega) (fun _=>rfl)) ?_
 refine wA [1] [4,39] [4] ?_
 refine oN J J J J J (AB (x:=(r.kids.map (aJ t)).getD 0 default) (fun h4=>by have:=((hK _ (aP (h5l ace))).k4 h4).2.1;omega)) ?_
 refine wZ [6] ?_
 refine aA J ?_;rotate_left
 refine wA [2005,4] [4,42,44] [4] ?_
 refine oE J J J J J J (fb ace) ?_
 refine wA [1] [4,46] [4] ?_
 refine c7 acf ?_
 refine ea J (aV J J J bX J J J J acg J J aa) ?_
 refine fZ ?_
 refine Cx [2] ?_
 refine aA J ?_;rotate_left
 all_goals
  first
   | (rw[zX ace ach];rfl)
   | (rw[zY ace ach];rfl)
   | (rw[kP ace];rfl)
   | (rw[kQ ace];rfl)
   | (rw[jV ace ace ace,mE];rfl)
theorem RM:tP Tryz.prog 146 Tryz.f146.ntmps 2 87 3 (Tryz.f146.body.getD .skip):=⟨Tryz.f146,Tryz.func146,rfl,rfl,rfl,acf,iC,bX⟩
theorem D8 {r:Rx}(h:r.size≤137438953472):aq Tryz.prog 146 [rx r] (.p (rx (if aQ r then aJ false r else dG))):=by
 refine ez RM (ZZ J) fun w0 M0 aa=>?_
 refine c6 [2,7] [1,2,3] [2] ?_
 refine oC J J J J (me _ _ (Z1 _) ace) ?_
 refine wS [3003] [1,2,5] [2] ?_ ?_<;>intro h1
 refine wZ [9] ?_
 refine aA J ?_;rotate_left
 refine wA [6] [2,7] [2] ?_
 refine oC J J J J (x9 _ _ _ (Z1 _) ace (by simpa using h1)) ?_
 refine wZ [4] ?_
 refine aA J ?_;rotate_left
 all_goals
  first|(rw[if_pos ach];rfl)|(rw[if_neg (by rw[h1];decide)];rfl)
theorem Vt:tP Tryz.prog 186 Tryz.f186.ntmps 2 87 3 (Tryz.f186.body.getD .skip):=⟨Tryz.f186,Tryz.func186,rfl,rfl,rfl,acf,iC,bX⟩
theorem Ny {r:Rx}(h:r.size≤137438953472):aq Tryz.prog 186 [rx r] (.p (rx (if aQ r then aJ true r else dG))):=by
 refine ez Vt (ZZ J) fun w0 M0 aa=>?_
 refine c6 [2,7] [1,2,3] [2] ?_
 refine oC J J J J (me _ _ (Z1 _) ace) ?_
 refine wS [3003] [1,2,5] [2] ?_ ?_<;>intro h1
 refine wZ [9] ?_
 refine aA J ?_;rotate_left
 refine wA [6] [2,7] [2] ?_
 refine oC J J J J (x9 _ _ _ (Z1 _) ace (by simpa using h1)) ?_
 refine wZ [4] ?_
 refine aA J ?_;rotate_left
 all_goals
  first|(rw[if_pos ach];rfl)|(rw[if_neg (by rw[h1];decide)];rfl)
abbrev Vu:=dU 2 Tryz.func256
theorem D9 {x:Int}:aq Tryz.prog 256 [int x] (.p (bool false)):=by
 refine cF Vu fun w0 M0 aa=>?_
 refine zM [8014] ?_
 rw[decide_eq_true rfl];rfl
abbrev Vv:=dU 4 Tryz.func255
theorem JQ {x y:Int}:aq Tryz.prog 255 [int x,int y] (.p (bool (decide (x<y)))):=by
 refine cF Vv fun w0 M0 aa=>?_
 refine c6 [8] [0,1,5] [] ?_
 refine oP J (lP (b':=false) J J J (rX) aa (rfl)) ?_
 refine wZ [8014] ?_
 rfl
theorem Vw:G7 Tryz.prog 237 Tryz.f237.ntmps 4 5 (Tryz.f237.body.getD .skip):=⟨Tryz.f237,Tryz.func237,rfl,rfl,rfl,acf⟩
theorem P9 {s:List Int}{a:Int}(hs:pF E6 s)(hl:s.length≤1099511627776):aq Tryz.prog 237 [ints s,int a] (.p (.tup [int (Y4 a s),bool (decide (a∈s))])):=by
 refine ph Vw (ZZ J) fun w0 M0 aa=>?_
 refine c6 [9,12] [0,1,6,7,8] [] ?_
 refine lp (fun zm zs=>∃i j:Nat,zm=j-i∧(i≤j)∧(j≤s.length)∧(∀k,k<i→s.getD k default<a)∧(∀k,j≤k→k<s.length→a≤s.getD k default)∧zs=⟨54,[(0,vvz (ints s)),(1,vvz (int a)),(6,vvw (int s.length)),(7,vvw (int i)),(8,vvw (int j))],[]⟩) ?_ ?_
 exact⟨_,0,s.length,rfl,Z5 _,Z1 _,fun k hk=>absurd hk ace,fun k hk hk2=>absurd hk ace,rfl⟩
 rintro zm zs ⟨i,j,rfl,aZ,au,cX,HX,rfl⟩
 refine wS [3008] [0,1,6,7,8,15] [] ?_ ?_<;>intro h1
 refine wZ [8,5000] ?_
 refine oP J (nn J Tryz.underlying3 Tryz.underlying154 J) ?_
 refine wA [0] [0,1,6,7,8,19] [] ?_
 refine oP J (K8 J J J ace) ?_
 refine oP J (dF (a':=((i+j) / 2:Nat)) (nn J Tryz.underlying154 Tryz.underlying3 J) (Sr ace)) ?_
 refine wA [7,2] [0,1,6,7,8,9,25,26] [] ?_
 refine oC J J J J (JQ) ?_
 refine wS [3002] [0,1,6,7,8,9,27] [] ?_ ?_<;>intro h2
 refine wA [3,9003] [0,1,6,7,8] [] ?_
 refine⟨_,⟨(i+j) / 2+1,j,rfl,ace,au,fun k hk=>?_,HX,by rw[show(((i+j) / 2:Nat):Int)+1=(((i+j) / 2+1:Nat):Int) by omega]⟩,ace⟩
 rcases aaq k ((i+j) / 2) with q|q
 ·have h5:=jE hs q ace
  have:=of_decide_eq_true h5.1
  omega
 ·rw[show k=(i+j) / 2 by omega];assumption
 refine wA [9006] [0,1,6,7,8] [] ?_
 refine⟨_,⟨i,(i+j) / 2,rfl,ace,ace,cX,fun k hk hk2=>?_,rfl⟩,ace⟩
 rcases Nat.eq_or_lt_of_le hk with q|q
 ·rw[←q];omega
 ·have h5:=jE hs q hk2
  have:=of_decide_eq_true h5.1
  omega
 refine wS [4013] [0,1,7,31,35] [] ?_ ?_<;>intro h3'
 refine wS [2,4004] [0,1,7,31,35,42] [] ?_ ?_<;>intro h4'
 refine wZ [16] ?_
 refine cK J J ?_;rotate_left
 refine wA [2,1] [1,31,35,42,46] [] ?_
 refine oP J (lP (b':=false) J J J (D9) aa (rfl)) ?_
 refine wZ [11] ?_
 refine cK J J ?_;rotate_left
 refine wZ [23] ?_
 refine cK J J ?_;rotate_left
 all_goals
  have hij:i=j:=ace
  refine⟨?_,?_⟩
  ·exact congrArg (fun n:Nat=>int n) (Ui ace cX fun h=>HX _ ace h)
  ·first
   | (rw[decide_eq_true (p:=a∈s) (Sp (i:=i) ace ach)];first|done|rfl|(simp_all;done))
   | (rw[decide_eq_false (p:=a∈s) (Uj hs cX (fun h=>HX _ ace h) (fun h=>by first|assumption|omega))];first|done|rfl|(simp_all;done))
theorem Vx:tP Tryz.prog 202 Tryz.f202.ntmps 4 87 3 (Tryz.f202.body.getD .skip):=⟨Tryz.f202,Tryz.func202,rfl,rfl,rfl,acf,iC,bX⟩
theorem ep {r:Rx}(h:r.size≤137438953472):aq Tryz.prog 146 [rx r] (.p (rx (dy r))):=D8 h
theorem JR {r:Rx}(h:r.size≤137438953472):aq Tryz.prog 186 [rx r] (.p (rx (eo r))):=Ny h
theorem Vy:tP Tryz.prog 150 Tryz.f150.ntmps 4 87 3 (Tryz.f150.body.getD .skip):=⟨Tryz.f150,Tryz.func150,rfl,rfl,rfl,acf,iC,bX⟩
abbrev Vz:=dU 4 Tryz.func183
theorem mS:∀ (m:Nat)(r:Rx),r.size≤m→wd r≤1099511627776→aq Tryz.prog 203 [rx r] (.p (bool (cP r))):=by
 intro m
 induction m with
 | zero=>intro a hr _;have:=size_pos a;omega
 | succ m ih =>
 intro r hr hm
 have hkl:=(gK.1 hm).1.2
 have hsl:=(gK.1 hm).1.1
 rw[fi r]
 refine cF RD fun w0 M0 aa=>?_
 refine rM [2,3018] [1,4,5] [] ?_ ?_<;>intro h1
 refine wZ [8012] ?_;rotate_left
 refine wS [3006] [1,4,5] [] ?_ ?_<;>intro h2
 refine wZ [8009] ?_;rotate_left
 refine wS [3007] [1,4,8] [] ?_ ?_<;>intro h3
 refine wA [5] [11] [] ?_
 refine oC J J J J (gC (p:=fun x=>!cP x) ace (fun x hx=>vt (ih _ (aaT (aax (dd hx) hr)) (ik hm hx)))) ?_
 refine wZ [8007] ?_;rotate_left
 refine wS [3007] [1,14] [] ?_ ?_<;>intro h4
 refine wA [5] [17] [] ?_
 refine oC J J J J (gC (p:=cP) ace (fun x hx=>(ih _ (aaT (aax (dd hx) hr)) (ik hm hx)))) ?_
 refine wZ [8006] ?_;rotate_left
 refine wZ [8010] ?_;rotate_left
 all_goals
  rw[qp];first|(rw[if_pos ace,pC];done)|(rw[if_neg ace,if_pos ace];done)|(rw[if_neg ace,if_neg ace];simp_all;done)|(rw[if_neg ace,if_neg ace,decide_eq_false ace];done)
theorem rl:∀ (m:Nat)(a b:Rx),a.size≤m→wd a≤1099511627776→wd b≤1099511627776→aq Tryz.prog 252 [rx a,rx b] (.p (int (de a b))):=by
 intro m
 induction m with
 | zero=>intro a b hr _ _;have:=size_pos a;omega
 | succ m ih =>
 intro a b ha hwa hwb
 have hka:=(gK.1 hwa).1.2
 have hsa:=(gK.1 hwa).1.1
 have hkb:=(gK.1 hwb).1.2
 have hsb:=(gK.1 hwb).1.1
 rw[fi a,fi b]
 refine cF RF fun w0 M0 aa=>?_
 refine c6 [2,0,2004,4] [2,3,6,8] [] ?_
 refine oE J J J J J J (x8) ?_
 refine wA [4] [2,3,9,11,13] [] ?_
 refine oE J J J J J J (ng ace ace) ?_
 refine wA [4] [9,14,16,18] [] ?_
 refine oE J J J J J J (Az ace ace (fun x hx y hy=>ih x y (aaT (aax (dd hx) ha)) (ik hwa hx) (ik hwb hy))) ?_
 refine wZ [6000,5000] ?_
 refine oE J J J J J J (HW (l:=[bQ a.kind b.kind,bB a.syms b.syms,cE a.kids b.kids]) (by simp)) ?_
 refine wZ [8004] ?_
 rw[Hl]
theorem JS {l:List Rx}(hl:l.length≤1099511627776)(hs:∀i,i<l.length→(ek (l.take i)).length+(l.getD i default).kids.length+1≤1099511627776):aX Tryz.prog 234 [gJ l] (.p (rx (cU l))):=by
 refine bk RK (ZZ J) fun w0 M0 aa=>?_
 refine c6 [1007,6,4] [2,3,6,7,8] [2,3] ?_
 refine lp (fun zm zs=>∃i:Nat,zm=l.length-i∧(i≤l.length)∧(∀j,j<i→(l.getD j default).kind≠0)∧zs=⟨42,[(2,.pbox 2 0),(3,.own 3),(6,vvw (gJ l)),(7,vvw (int l.length)),(8,vvw (int i))],[(2,.box 87 [vvw (.sc (.int .i64 0)),vvv,vvv]),(3,.arr 87 ((ek (l.take i)).map rx))]⟩) ?_ ?_
 exact⟨_,0,rfl,Z5 _,fun j hj=>absurd hj ace,rfl⟩
 rintro zm zs ⟨i,rfl,aZ,au,rfl⟩
 have hroom:=hs i
 refine wS [3006] [2,3,6,7,8,9] [2,3] ?_ ?_<;>intro h1
 refine wS [7,3018] [2,3,5,6,7,8,13,18] [2,3,5] ?_ ?_<;>intro h2
 refine wZ [14] ?_
 refine aA J ?_;rotate_left
 refine wS [3007] [2,3,5,6,7,8,13,21] [2,3,5] ?_ ?_<;>intro h3
 refine wA [6,9002] [2,3,6,7,8] [2,3] ?_;rotate_left
 refine wS [3007] [2,3,5,6,7,8,23] [2,3,5] ?_ ?_<;>intro h4
 refine wA [1] [2,3,5,6,7,8] [2,3,5] ?_
 have hr:=hroom ace
 refine wA [4] [2,6,7,8,25,27] [2,3] ?_
 refine oS J (step_append J J J J Tryz.underlying85 jr J J aa (wq (l:=(l.getD i default).kids) J) (by first|(simp only[ll];omega)|omega) (by first|(simp only[ll];omega)|omega)) J ?_
 refine wA [6,9002] [2,3,6,7,8] [2,3] ?_;rotate_left
 refine wA [1] [2,3,5,6,7,8] [2,3,5] ?_
 have hr:=hroom ace
 refine wA [3,1000,6,9002] [2,3,6,7,8] [2,3] ?_;rotate_left
 refine wS [10,3009] [2,3,31,32] [2,3] ?_ ?_<;>intro h5
 refine wZ [10] ?_
 refine aA J ?_;rotate_left
 refine wS [3007] [2,3,35] [2,3] ?_ ?_<;>intro h6
 refine wZ [4,0,6] ?_
 refine aA J ?_;rotate_left
 refine wA [5] [2,3] [2,3] ?_
 refine aS 42 [(2,_),(3,_)] [(2,_)] aa J ⟨.inl J,.inr ⟨_,_,rfl,rfl,rfl⟩,trivial⟩ ⟨rfl,trivial⟩ ?_
 refine Cw [7] ?_
 refine aA J ?_;rotate_left
 all_goals first
  | (
    first|(rw[tX (i:=i) ace ace];rfl)|(rw[nu (fun j hj=>au j ace)];rw[show ek l=ek (l.take i) by rw[aaj ace]];first|(rw[FF ace];rfl)|(rw[FG ace];rfl)|(rw[rO ace ace,mE];rfl));done)
  | (
    exact⟨_,⟨i+1,rfl,ace,b7 au ace,by rw[tW ace];first|(rw[lV ace,aav];rfl)|(rw[iK ace,Z8];rfl)|(rw[eh ace ace,Z8];rfl)⟩,ace⟩;done)
theorem nM {B:Nat}{l:List Rx}(hB:B≤549755813000)(hl:l.length≤B)(h:(ek l).length≤B)(hw:∀x∈l,wd x≤B):aX Tryz.prog 234 [gJ l] (.p (rx (cU l))) :=
 JS ace fun i hi=>by have:=MW h hw i hi;omega
end Go.Proofs.YtlapahnodhmcpaaGreat
