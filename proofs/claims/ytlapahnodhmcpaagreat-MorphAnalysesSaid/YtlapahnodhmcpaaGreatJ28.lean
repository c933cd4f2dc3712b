/-
  Part of the proof.
-/
import Derived.Test.YtlapahnodhmcpaaGreatJ0
import Derived.Test.YtlapahnodhmcpaaGreatJ16
import Derived.Test.YtlapahnodhmcpaaGreatJ27
import Derived.Test.YtlapahnodhmcpaaGreatJ26
import Derived.Test.YtlapahnodhmcpaaGreatJ12
set_option linter.unusedVariables false
set_option linter.unusedSectionVars false
set_option linter.unusedSimpArgs false
set_option maxRecDepth 100000
set_option maxHeartbeats 40000000
namespace Go.Proofs.YtlapahnodhmcpaaGreat
open Go.Am Go.Wb
theorem Gp {x y:Rx}(hx:wd x≤1099511627776)(hy:wd y≤1099511627776):aq Tryz.prog 254 [rx x,rx y] (.p (bool (Hn x y))):=by
 refine cF RI fun w0 M0 aa=>?_
 refine c6 [2,0,7] [5,6] [] ?_
 refine oC J J J J (rl _ _ _ (Z1 _) hx hy) ?_
 refine wZ [8005] ?_
 rfl
theorem AD {B:Nat}{l:List Rx}(hB:B≤549755813000)(hl:l.length≤1099511627776)(ho:FX B l):aX Tryz.prog 235 [gJ l] (.p (rx (gN l))):=by
 obtain⟨hS,Lo,hw⟩:=ho
 have ZQ:=MV (c5 l) (dP l)
 have P8:∀z∈j5 (c5 l) (dP l),wd z≤1099511627776:=fun z hz=>by have:=Pw hS hw z hz;omega
 have ZR:(dS l).length≤1099511627776:=by
   have h1:=vX (eq:=Hn) (l:=jU (j5 (c5 l) (dP l)))
   rw[qw] at h1
   show(sj _ _).length≤_
   omega
 have Vr:=qv (c5 l)
 refine bk RJ (ZZ J) fun w0 M0 aa=>?_
 refine c6 [17,5] [0,2,3,4,5] [2,3,4] ?_
 refine bL 3 0 11 87 85 aa J J J J ?_
 refine bL 4 0 10 3 22 aa J J J J ?_
 refine gS [2,4] [2,3,4,5,11,12,13] [2,3,4,10,11] ?_
 refine lp (fun zm zs=>∃i:Nat,zm=l.length-i∧(i≤l.length)∧zs=⟨81,[(2,.pbox 2 0),(3,.pbox 3 0),(4,.pbox 4 0),(5,.fn 249 [.bx 4,.bx 3]),(11,vvw (gJ l)),(12,vvw (int l.length)),(13,vvw (int i))],[(2,.box 87 [vvw (.sc (.int .i64 0)),vvv,vvv]),(3,.box 85 [.own 11]),(4,.box 22 [.own 10]),(10,.arr 3 ((c4 (aW (l.take i))).map int)),(11,.arr 87 ((eW (aW (l.take i))).map rx))]⟩) ?_ ?_
 exact⟨_,0,rfl,Z5 _,rfl⟩
 rintro zm zs ⟨i,rfl,aZ,rfl⟩
 have hb1:=Pv l i
 have hb5:=fun(h:i<l.length)=>(gK.1 (hw _ (aP h))).1
 refine wS [3006] [2,3,4,5,11,12,13,14] [2,3,4,10,11] ?_ ?_<;>intro h1
 refine wS [7,3013] [2,3,4,5,7,11,12,13,19] [2,3,4,7,10,11] ?_ ?_<;>intro h2
 refine wA [5] [2,3,4,5,11,12,13,20,21] [2,3,4,10,11] ?_
 refine oS J (aO [(1000001,4),(1000002,3)] J J J J J J J (tl (x:=l.getD i default) (s:=c4 (aW (l.take i))) (k:=eW (aW (l.take i))) (by have:=hb5 ace;omega) ace) ⟨.inl J,.inl J,.inl J,trivial⟩ ⟨rfl,rfl,rfl,rfl,trivial⟩ J J J J J aa) J ?_
 refine wA [7,9002] [2,3,4,5,11,12,13] [2,3,4,10,11] ?_
 refine⟨_,⟨i+1,rfl,ace,?_⟩,ace⟩
 rw[nw ace,jo ace,qt,qu];rfl
 refine wA [6] [2,3,4,5,11,12,13,23] [2,3,4,7,10,11] ?_
 refine oP J (D7 (ae J JD J J J)) ?_
 refine wA [0,4] [2,3,4,5,11,12,13,24,25,26] [2,3,4,10,11] ?_
 refine lp (fun zm zs=>∃j:Nat,zm=(l.getD i default).kids.length-j∧(j≤(l.getD i default).kids.length)∧zs=⟨81,[(2,.pbox 2 0),(3,.pbox 3 0),(4,.pbox 4 0),(5,.fn 249 [.bx 4,.bx 3]),(11,vvw (gJ l)),(12,vvw (int l.length)),(13,vvw (int i)),(24,vvw (gJ (l.getD i default).kids)),(25,vvw (int (l.getD i default).kids.length)),(26,vvw (int j))],[(2,.box 87 [vvw (.sc (.int .i64 0)),vvv,vvv]),(3,.box 85 [.own 11]),(4,.box 22 [.own 10]),(10,.arr 3 ((c4 (aW (l.take i)++(l.getD i default).kids.take j)).map int)),(11,.arr 87 ((eW (aW (l.take i)++(l.getD i default).kids.take j)).map rx))]⟩) ?_ ?_
 refine⟨_,0,rfl,Z5 _,?_⟩
 rw[acd,aav];rfl
 rintro zm zs ⟨j,rfl,fU,rfl⟩
 have hc1:=MU l (i:=i) ace ace j
 have hc4:=fun(h:j<(l.getD i default).kids.length)=>(gK.1 (ik (hw _ (aP ace)) (aP h))).1
 have hc5:=hb5 ace
 refine wS [3006] [2,3,4,5,11,12,13,24,25,26,27] [2,3,4,10,11] ?_ ?_<;>intro h3
 refine wA [7,8] [2,3,4,5,11,12,13,24,25,26,30,31] [2,3,4,10,11] ?_
 refine oS J (aO [(1000001,4),(1000002,3)] J J J J J J J (tl (x:=(l.getD i default).kids.getD j default) (s:=c4 (aW (l.take i)++(l.getD i default).kids.take j)) (k:=eW (aW (l.take i)++(l.getD i default).kids.take j)) (by have:=hc4 ace;omega) ace) ⟨.inl J,.inl J,.inl J,trivial⟩ ⟨rfl,rfl,rfl,rfl,trivial⟩ J J J J J aa) J ?_
 refine wA [4,9002] [2,3,4,5,11,12,13,24,25,26] [2,3,4,10,11] ?_
 refine⟨_,⟨j+1,rfl,ace,?_⟩,ace⟩
 rw[zV ace,zW ace];rfl
 refine wA [8,9002] [2,3,4,5,11,12,13] [2,3,4,10,11] ?_
 refine⟨_,⟨i+1,rfl,ace,?_⟩,ace⟩
 rw[nw ace,gF ace,show(l.getD i default).kids.take j=(l.getD i default).kids from aaj ace];rfl
 refine wA [6] [2,3,4] [2,3,4,10,11] ?_
 refine ct (fun zs=>zs=⟨81,[(2,.pbox 2 0),(3,.pbox 3 0)],[(2,.box 87 [vvw (.sc (.int .i64 0)),vvv,vvv]),(3,.box 85 [.own 11]),(11,.arr 87 ((j5 (c5 l) (dP l)).map rx))]⟩) ?_ ?_
 refine wA [1] [2,3,4] [2,3,4,10,11] ?_
 rw[show l.take i=l from aaj ace]
 refine wS [2,3003] [2,3,4,37] [2,3,4,10,11] ?_ ?_<;>intro h4
 refine wA [4] [2,3,4,38] [2,3,4,10,11] ?_
 refine oS J (w9 Nw J J J J J J y3 (by have h1:(c4 (aW l)).length≤B:=hS;omega) aa) J ?_
 refine wA [2] [2,3,4] [2,3,4,10,11] ?_
 rw[vd]
 refine kl (n:=81) (o2:=[(2,.box 87 [vvw (.sc (.int .i64 0)),vvv,vvv]),(3,.box 85 [.own 11]),(11,.arr 87 ((dP l).map rx))]) 2 6 [(40,.own 11),(41,.own 10),(42,vvw (ints (sj OC (jD (c5 l))))),(43,vvw (rx (.mk 2 (sj OC (jD (c5 l))) []))),(44,vvw (int (dP l).length)),(45,vvw (.sl [.agg [int 0,.sc (.slice none 0 0),.sc (.slice none 0 0)]])),(2,.pbox 2 0),(3,.pbox 3 0),(4,.pbox 4 0)] mixed acf acf acf J acf (fun t d h=>h) J ?_ ?_ ?_ ?_ ?_
 · intro i hi
   rcases(by omega:i=0∨i=1∨i=2∨i=3∨i=4∨i=5) with rfl|rfl|rfl|rfl|rfl|rfl<;>exact⟨_,_,rfl,rfl⟩
 · intro i o t d hi hia ho hd hG hn
   rcases(by omega:i=0∨i=1∨i=3∨i=4∨i=5) with rfl|rfl|rfl|rfl|rfl
   · injection (show some _ = some o from ho) with ho; subst ho; injection (show some _ = some t from hd) with hd; subst hd; injection (show some _ = some d from hG) with hG; subst hG
     exact ae J JD J J J
   · injection (show some _ = some o from ho) with ho; subst ho; injection (show some _ = some t from hd) with hd; subst hd; injection (show some _ = some d from hG) with hG; subst hG
     exact ae J F5 J J J
   · exact absurd hn acg
   · injection (show some _ = some o from ho) with ho; subst ho; injection (show some _ = some t from hd) with hd; subst hd; injection (show some _ = some d from hG) with hG; subst hG
     exact gy J Tryz.underlying85 J
   · injection (show some _ = some o from ho) with ho; subst ho; injection (show some _ = some t from hd) with hd; subst hd; injection (show some _ = some d from hG) with hG; subst hG
     exact bY J Tryz.underlying85 jr J J J J aa
 · intro i o t d hi hia ho hd hG hn
   rcases(by omega:i=0∨i=1∨i=3∨i=4∨i=5) with rfl|rfl|rfl|rfl|rfl
   · injection (show some _ = some o from ho) with ho; subst ho; injection (show some _ = some t from hd) with hd; subst hd; injection (show some _ = some d from hG) with hG; subst hG
     exact ae J JD J J J
   · exact absurd hn acg
   · injection (show some _ = some o from ho) with ho; subst ho; injection (show some _ = some t from hd) with hd; subst hd; injection (show some _ = some d from hG) with hG; subst hG
     exact aC (aF J Ga oI J J J) J
   · injection (show some _ = some o from ho) with ho; subst ho; injection (show some _ = some t from hd) with hd; subst hd; injection (show some _ = some d from hG) with hG; subst hG
     exact gy J Tryz.underlying85 J
   · injection (show some _ = some o from ho) with ho; subst ho; injection (show some _ = some t from hd) with hd; subst hd; injection (show some _ = some d from hG) with hG; subst hG
     exact bY J Tryz.underlying85 jr J J J J aa
 · intro o X ho fl dO dh
   have Tl:41∈looks _ o→X.lookup 41=some (.own 10):=fun h=>(dh 41 h).trans rfl
   injection (show some _=some o from ho) with ho'
   obtain⟨s',g1,g2⟩:=CY (o:=o) (f:=122) (ats:=#[22]) (n:=81) (X:=X) (o1:=[(2,.box 87 [vvw (.sc (.int .i64 0)),vvv,vvv]),(3,.box 85 [.own 11]),(4,.box 22 [.own 10]),(10,.arr 3 ((jD (c5 l)).map int)),(11,.arr 87 ((dP l).map rx))]) (o2:=[(2,.box 87 [vvw (.sc (.int .i64 0)),vvv,vvv]),(3,.box 85 [.own 11]),(11,.arr 87 ((dP l).map rx))]) (t:=42) (u:=41) (id:=10) (by rw[←ho'];rfl) (by rw[←ho'];rfl) rfl rfl (Tl (by rw[←ho'];decide)) fl rfl (oO (l:=jD (c5 l)) ace) (fun t' d h hne=>C0 (u:=41) (by rfl) (dO t' d h) hne) rfl (IU.out (o1:=[(2,.box 87 [vvw (.sc (.int .i64 0)),vvv,vvv]),(3,.box 85 [.own 11]),(4,.box 22 [.own 10]),(10,.arr 3 ((jD (c5 l)).map int)),(11,.arr 87 ((dP l).map rx))]) (o2:=[(2,.box 87 [vvw (.sc (.int .i64 0)),vvv,vvv]),(3,.box 85 [.own 11]),(11,.arr 87 ((dP l).map rx))]) ⟨⟨_,rfl,rfl⟩,⟨_,rfl,rfl⟩,⟨_,rfl,rfl⟩,trivial⟩) aa
   exact⟨42,_,s',by rw[←ho'];rfl,rfl,g1,g2⟩
 refine bO (n:=4) acf ?_
 refine xf 6 ?_
 refine eJ (i:=7) (j:=9) acf J J J J (aL J J (aD J Tryz.underlying85 bX J J J (by first|(simp only[ll];omega)|omega))) (aU J J J BS J J J J J aa) ?_ ?_
 refine eJ (i:=8) (j:=9) acf J J J J (ay J J J bX J J (iA rx (dP l) _) J J (.inl J) J (ZZ J) aa) (aU J J J BS J J J J J aa) ?_ ?_
 refine aH (i:=9) acf J J (aU J J J BS J J J J J aa) ?_
 refine bg acf ?_
 refine jl [10000] [2,3] [2,3,11] ?_;rotate_left
 refine aH (i:=8) acf J J (ay J J J bX J J (iA rx (dP l) _) J J (.inl J) J (ZZ J) aa) ?_
 refine bg acf ?_
 refine jl [10000] [2,3] [2,3,11] ?_;rotate_left
 refine xe 7 ?_
 refine aH (i:=8) acf J J (ay J J J bX J J (iA rx (dP l) _) J J (.inl J) J (ZZ J) aa) ?_
 refine bg acf ?_
 refine jl [10000] [2,3] [2,3,11] ?_;rotate_left
 refine wA [10002] [2,3] [2,3,11] ?_
 rw[L1 (by show ¬0<(c4 (aW l)).length;omega)];rfl
 rintro zs ⟨rfl⟩
 refine wA [3] [2,3,48] [2,3,11] ?_
 refine oS J (xM (cells:=WI) (cf:=de) (p:=fun z=>wd z≤1099511627776) Nv J J J J J J J bX acg P8 (fun a b ha hb=>rl _ a b (Z1 _) ha hb) nJ (fun a _=>xt a) (fun a b c _ _ _=>kq a b c) (fun a b _ _=>Dl) ace aa) J ?_
 refine wA [3] [2,3] [2,3,11] ?_
 rw[u9]
 refine wA [2] [2,3,50] [2,3,11] ?_
 refine oS J (aO [(0,11)] J J J J J J J (rk (eq:=Hn) (l:=jU (j5 (c5 l) (dP l))) (by rw[qw];omega) (fun x hx y hy=>Gp (P8 _ (lF.1 hx)) (P8 _ (lF.1 hy)))) ⟨.inl J,.inl J,trivial⟩ ⟨rfl,trivial⟩ J J J J J aa) J ?_
 refine kj 81 [(2,_),(3,_),(51,_)] [(2,_),(3,_)] aa J ⟨.inl J,.inl J,.inr ⟨_,_,rfl,rfl,rfl⟩,trivial⟩ ⟨rfl,rfl,trivial⟩ ?_
 refine WH [3] [2,3] [2,3] ?_
 refine ct (fun zs=>zs=⟨81,[(2,.pbox 2 0),(3,.pbox 3 0)],[(2,.box 87 [vvw (.sc (.int .i64 0)),vvv,vvv]),(3,.box 85 [vvw (gJ (j6 (dS l)))])]⟩) ?_ ?_
 refine wS [3,4002] [2,3,55] [2,3] ?_ ?_<;>intro h5'
 refine wS [1,4005] [2,3,62] [2,3] ?_ ?_<;>intro h6'
 refine wZ [1,5000] ?_
 refine oC J J J J (gC (p:=cP) (l:=(dS l).drop 1) (by simp;omega) (fun x hx=>mS _ _ (Z1 _) (P8 _ (sW (aaE hx))))) ?_
 refine wS [3003] [2,3,66] [2,3] ?_ ?_<;>intro h7
 refine wA [3,10002] [2,3] [2,3] ?_;rotate_left
 refine wA [10002] [2,3] [2,3] ?_;rotate_left
 refine wA [10008] [2,3] [2,3] ?_;rotate_left
 refine wA [10015] [2,3] [2,3] ?_;rotate_left
 rintro zs ⟨rfl⟩
 refine wS [4,3009] [2,3,70,71] [2,3] ?_ ?_<;>intro h8
 refine wZ [10] ?_
 refine aA J ?_;rotate_left
 refine wS [3007] [2,3,74] [2,3] ?_ ?_<;>intro h9
 refine wZ [4,7] ?_
 refine aA J ?_;rotate_left
 refine wZ [12] ?_
 refine aA J ?_;rotate_left
 all_goals first
  | (
    have h4u:0<(c5 l).length:=by show 0<(c4 (aW l)).length;omega
    rw[L0 h4u,←xo (z:=.agg [int 0,.sc (.slice none 0 0),.sc (.slice none 0 0)])];rfl;done)
  | (
    first
      | (rw[xw (k:=dS l) (by show 1<(sj Hn (jU (j5 (c5 l) (dP l)))).length;omega) h6' h7];rfl)
      | (rw[lW (k:=dS l) (fun q=>absurd q.1 (by show ¬1<(sj Hn (jU (j5 (c5 l) (dP l)))).length;omega))];rfl)
      | (rw[lW (k:=dS l) (fun q=>h6' q.2.1)];rfl)
      | (rw[lW (k:=dS l) (fun q=>by rw[q.2.2] at h7;cases h7)];rfl);done)
  | (
    first
      | (rw[show gN l=dG from FI (k:=j6 (dS l)) ace];rfl)
      | (rw[show gN l=_ from Bu (k:=j6 (dS l)) ace];rfl)
      | (rw[show gN l=_ from xv (k:=j6 (dS l)) ace ace,mE];rfl);done)
theorem tn {B:Nat}(hB:B≤274877906000)(a:Int):∀(m:Nat)(r:Rx),r.size≤m→Nf r→wd r≤B→xQ B a r→aX Tryz.prog 202 [rx r,int a] (.p (rx (dR a r))):=by
 refine fun m=>Nat.strongRecOn m fun m ih=>?_
 intro r hm hn hw hd
 have hv:=nC hn
 have hl:=(gK.1 hw).1.2
 have hsy:=(gK.1 hw).1.1
 have h5l:r.kind=5→0<r.kids.length:=fun h=>by rw[(ly hv h).2];decide
 have hset:r.kind=2→jS r.syms=true:=fun h=>by rw[lU h,aae] at hv;exact hv.2
 have hkw:∀i,i<r.kids.length→wd (r.kids.getD i default)≤B:=fun i hi=>ik hw (aP hi)
 have hkn:∀x∈r.kids,Nf x:=fun x hx=>hn.WK hx
 have kb:∀i,i<r.kids.length→aX Tryz.prog 202 [rx (r.kids.getD i default),int a] (.p (rx (dR a (r.kids.getD i default)))):=fun i hi =>
   ih _ (aax (hU hi) hm) _ (Z1 _) (hkn _ (aP hi)) (hkw i hi) (hd.hk _ (aP hi))
 have e0:r.kind=5→rx ((r.kids.map (dR a)).getD 0 default)=rx (dR a (r.kids.getD 0 default)):=fun h=>by rw[getD_map (h5l h)]
 have hs1:r.kind=3→∀i,aX Tryz.prog 234 [gJ (r.kids.drop (i+1))] (.p (rx (cU (r.kids.drop (i+1))))):=fun h3 i =>
   nM (B:=B) ace (by rw[aad];omega) (by rw[uv hn h3,aad];omega) fun x hx=>ik hw (aaE hx)
 have hs2:r.kind=3→∀i,i<r.kids.length→aX Tryz.prog 234 [gJ [dR a (r.kids.getD i default),cU (r.kids.drop (i+1))]] (.p (rx (dQ a r.kids i))):=fun h3 i hi=>by
   have h1:=hd.hs (.inl h3) _ (aP hi)
   have h2:=y2 (r.kids.drop (i+1)) fun x hx=>hkn x (aaE hx)
   have h4:wd (cU (r.kids.drop (i+1)))≤B:=Px (by rw[uv hn h3,aad];omega) fun x hx=>ik hw (aaE hx)
   rw[uv hn h3,aad] at h2
   refine nM (B:=B+B) ace (by show 2≤_;omega) ?_ fun x hx=>?_
   · show (cy _ ++ (cy _ ++ [])).length ≤ _
     rw[aav,aab];omega
   · rcases aah.1 hx with rfl | hx
     · omega
     · rw[aag.1 hx];omega
 have hs3:r.kind=5→aX Tryz.prog 234 [gJ [dR a (r.kids.getD 0 default),r]] (.p (rx (cU [dR a (r.kids.getD 0 default),r]))):=fun h5=>by
   have h1:=hd.hs (.inr h5) _ (aP (h5l h5))
   have:=h5l h5
   refine nM (B:=B+B) ace (by show 2≤_;omega) ?_ fun x hx=>?_
   · show (cy _ ++ (cy _ ++ [])).length ≤ _
     rw[aav,aab,eh (x:=r) ace ace]
     show _+1≤_
     omega
   · rcases aah.1 hx with rfl | hx
     · omega
     · rw[aag.1 hx];omega
 have hal:aX Tryz.prog 235 [gJ (dL a r)] (.p (rx (gN (dL a r)))):=by
   refine AD (B:=B) ace ?_ ?_
   · unfold dL
     split
     · rw[Z0];omega
     · split
       · have:=BM a r.kids;omega
       · exact Z5 _
   · unfold dL
     split
     · exact hd.h4 ‹_›
     · split
       · exact hd.h3 ‹_›
       · exact⟨Z5 _,Z5 _,fun x hx=>by cases hx⟩
 rw[fi r]
 refine bk Vx (ZZ J) fun w0 M0 aa=>?_
 refine c6 [2,1005,2] [1,2,4,5] [4,5] ?_
 refine ct (fun zs=>(r.kind≠5∧(r.kind=2→¬a∈r.syms))∧zs=⟨82,[(4,.pbox 4 0),(5,.own 5)],[(4,.box 87 [vvw (.sc (.int .i64 0)),vvv,vvv]),(5,.arr 87 ((dL a r).map rx))]⟩) ?_ ?_
 refine wS [3013] [1,2,4,5,13,14] [4,5] ?_ ?_<;>intro h1
 refine wA [6] [4,5,18,19] [4,5] ?_
 refine oC J J J J (P9 (jF.1 (hset ace)).2.1 ace) ?_
 refine wS [3012] [4,5,23] [4,5] ?_ ?_<;>intro h2
 refine wZ [10] ?_
 refine aA J ?_;rotate_left
 refine wA [10003] [4,5] [4,5] ?_;rotate_left
 refine wS [3007] [1,2,4,5,13,25] [4,5] ?_ ?_<;>intro h3
 refine wA [5,4] [1,4,5,28,29,30] [4,5] ?_
 refine lp (fun zm zs=>∃i:Nat,zm=r.kids.length-i∧(i≤r.kids.length)∧zs=⟨82,[(1,vvw (int a)),(4,.pbox 4 0),(5,.own 5),(28,vvw (gJ r.kids)),(29,vvw (int r.kids.length)),(30,vvw (int i))],[(4,.box 87 [vvw (.sc (.int .i64 0)),vvv,vvv]),(5,.arr 87 (((r.kids.take i).map (dR a)).map rx))]⟩) ?_ ?_
 exact⟨_,0,rfl,Z5 _,rfl⟩
 rintro zm zs ⟨i,rfl,aZ,rfl⟩
 refine wS [3006] [1,4,5,28,29,30,31] [4,5] ?_ ?_<;>intro h4
 refine wA [7,9] [1,4,28,29,30,34,35,36] [4,5] ?_
 refine oN J J J J J (kb _ ace) ?_
 refine wA [0,1000,5,9002] [1,4,5,28,29,30] [4,5] ?_
 exact⟨_,⟨i+1,rfl,ace,by rw[bD ace,Z8,Z8];rfl⟩,ace⟩
 refine wA [10006] [4,5] [4,5] ?_;rotate_left
 refine wS [3007] [1,2,4,5,13,41] [4,5] ?_ ?_<;>intro h5
 refine wA [5,4] [1,2,4,5,44,45,46] [4,5] ?_
 refine lp (fun zm zs=>∃i:Nat,zm=r.kids.length-i∧(i≤r.kids.length)∧(∀j,j<i→cP (r.kids.getD j default)=true)∧zs=⟨82,[(1,vvw (int a)),(2,vvw (pz r)),(4,.pbox 4 0),(5,.own 5),(44,vvw (gJ r.kids)),(45,vvw (int r.kids.length)),(46,vvw (int i))],[(4,.box 87 [vvw (.sc (.int .i64 0)),vvv,vvv]),(5,.arr 87 (((List.range i).map (dQ a r.kids)).map rx))]⟩) ?_ ?_
 exact⟨_,0,rfl,Z5 _,fun j hj=>absurd hj ace,rfl⟩
 rintro zm zs ⟨i,rfl,fU,fW,rfl⟩
 skip
 refine wS [3006] [1,2,4,5,44,45,46,47] [4,5] ?_ ?_<;>intro h6
 refine wA [8,2007,3] [1,2,4,10,11,44,45,46,51,52,53] [4,5,11] ?_
 refine oF J J J J J J J (kb _ ace) ?_
 refine wZ [6003,6000,5000] ?_
 refine oF J J J J J J J (hs1 ace i) ?_
 refine wZ [6000,5000] ?_
 refine oF J J J J J J J (hs2 ace i ace) ?_
 refine wZ [6000,5000] ?_
 refine c7 acf ?_
 refine ea J (step_append J J J J Tryz.underlying85 jr J J aa (cZ J (cw (by rfl))) (by first|(simp only[ll];omega)|omega) (by first|(simp only[ll];omega)|omega)) ?_
 refine G6 J J J (dn J J) ?_
 refine fZ ?_
 refine jl [4] [1,2,4,5,44,45,46,65] [4,5] ?_
 refine oC J J J J (mS _ _ (Z1 _) (by have:=hkw i ace;omega)) ?_
 refine wS [3003] [1,2,4,5,44,45,46,67] [4,5] ?_ ?_<;>intro h7
 refine wA [10007] [4,5] [4,5] ?_;rotate_left
 refine wA [5,9002] [1,2,4,5,44,45,46] [4,5] ?_
 exact⟨_,⟨i+1,rfl,ace,b7 fW (by first|assumption|simpa using h5|(simp_all;done)),by rw[aaP,Z8,Z8];rfl⟩,ace⟩
 refine wA [10006] [4,5] [4,5] ?_;rotate_left
 refine wS [3007] [1,2,4,5,69] [4,5] ?_ ?_<;>intro h8
 refine wA [2002,6002,2] [2,4,74,75] [4] ?_
 refine oF J J J J J J J (kb 0 (h5l ace)) ?_
 refine wZ [6001,5000] ?_
 refine oF J J J J J J J (by have h:=hs3 ace;rw[show gJ [dR a (r.kids.getD 0 default),r]=.sl [rx (dR a (r.kids.getD 0 default)),rx r] from J,fi r] at h;exact h) ?_
 refine c7 acf ?_
 refine ea J (aV J J J bX J J J J acg J J aa) ?_
 refine fZ ?_
 refine Cx [4] ?_
 refine aA J ?_;rotate_left
 refine wA [10003] [4,5] [4,5] ?_;rotate_left
 rintro zs ⟨Nz,rfl⟩
 refine wA [1] [4,5] [4,5] ?_
 refine aS 82 [(4,_),(5,_)] [(4,_)] aa J ⟨.inl J,.inr ⟨_,_,rfl,rfl,rfl⟩,trivial⟩ ⟨rfl,trivial⟩ ?_
 refine gS [2] [4,80] [4] ?_
 refine oN J J J J J (hal) ?_
 refine wZ [4] ?_
 refine aA J ?_;rotate_left
 all_goals first
  | (
    first|(rw[Xa ace ach];rfl)|(rw[Hu ace (h5l ace)];rfl)|(rw[ui Nz.1 Nz.2];rfl);done)
  | (
    refine⟨⟨ace,fun h=>by first|assumption|omega⟩,?_⟩
    first
      | (rw[By ace ace];rfl)
      | (rw[L9 ace,aaj ace];first|done|rfl)
      | (rw[Jb ace,O9 (i:=i) ace fW];done)
      | (rw[Jb ace,Ma (i:=i) ace fW ach,aaP,Z8,Z8];rfl);done)
theorem Ea {r:Rx}{w:List Int}{B:Nat}(hB:B≤274877906000)(h:r.size≤137438953472)(hw:w.length≤1099511627776)(hM:∀k,k≤w.length→wd (Je r w k)≤B∧∀b,xQ B b (Je r w k)) :
  aq Tryz.prog 183 [rx r,ints w] (.p (bool (rP r w))):=by
 refine cF Vz fun w0 M0 aa=>?_
 refine c6 [1002,6] [1,2,7] [2] ?_
 refine oC J J J J (ep ace) ?_
 refine wA [7,4] [2,9,10,11] [2] ?_
 refine lp (fun zm zs=>∃k:Nat,zm=w.length-k∧(k≤w.length)∧zs=⟨21,[(2,.pbox 2 0),(9,vvz (ints w)),(10,vvw (int w.length)),(11,vvw (int k))],[(2,.box 87 [vvw (int (Je r w k).kind),vvw (ints (Je r w k).syms),vvw (.sl (Rx.gi (Je r w k).kids))])]⟩) ?_ ?_
 exact⟨_,0,rfl,Z5 _,rfl⟩
 rintro zm zs ⟨k,rfl,aZ,rfl⟩
 refine wS [3006] [2,9,10,11,12] [2] ?_ ?_<;>intro h1
 refine wA [7,7] [2,9,10,11,15,16] [2] ?_
 refine oN J J J J J (tn hB _ _ _ (Z1 _) (Ss r w k) (hM k ace).1 ((hM k ace).2 _)) ?_
 refine wA [5,9002] [2,9,10,11] [2] ?_
 exact⟨_,⟨k+1,rfl,ace,by rw[Mb ace];rfl⟩,ace⟩
 refine wA [9] [19] [] ?_
 refine oC J J J J (mS _ _ (Z1 _) (by have:=(hM k ace).1;omega)) ?_
 refine wZ [8004] ?_
 rw[show k=w.length by omega];rfl
theorem Eb {r:Rx}{w:List Int}{S N:Nat}(h:r.size≤137438953472)(hS:(dy r).size≤S)(hN:w.length≤N)(hw:N≤1099511627776)(hK:(2*S*(N+2)+66)*(2*S*(N+2)+66)≤274877906000) :
  aq Tryz.prog 183 [rx r,ints w] (.p (bool (rP r w))) :=
 Ea (Z1 _) h ace fun k hk=>by
  rw[show Je r w k=Dv (dy r) (w.take k) from rfl]
  have h1:=fun b=>HG (S:=S) (N:=N) (K:=2*S*(N+2)+66) (B:=274877906000) (Z1 _) hK b (qB r) hS (v:=w.take k) (by rw[aaa];omega)
  exact⟨(h1 0).1,fun b=>(h1 b).2⟩
end Go.Proofs.YtlapahnodhmcpaaGreat
namespace Go.Wb
open Go.Am
theorem AE:∀ (l:List Rx)(s:List Int),(l.foldl ot s).length=s.length+((l.filter fun x=>decide (x.kind=2)).map fun x=>x.syms.length).sum
 | [],s=>rfl
 | x :: l, s => by
   rw[abD,AE l,aaN]
   by_cases h:x.kind=2
   · rw[ub h,if_pos (by simpa using h),aaL,List.sum_cons,aab];omega
   · rw[pE h,if_neg (by simpa using h)]
theorem Ed:∀ {l:List Rx},pF qO l→(∀x∈l,∀y∈l,x.kind=2→y.kind=2→x=y)→(∀x∈l,x.syms.length≤64)→((l.filter fun x=>decide (x.kind=2)).map fun x=>x.syms.length).sum≤64
 | [],_,_,_=>by decide
 | x :: l, hs, h2, h => by
   have hc:=aaF.1 hs
   rw[aaN]
   by_cases hx:x.kind=2
   · rw [if_pos (by simpa using hx), aaL, List.sum_cons]
     have:l.filter (fun x=>decide (x.kind=2))=[]:=List.filter_eq_nil_iff.2 fun y hy hy2=>(hc.1 y hy).2 (h2 x Z7 y (aac _ hy) hx (by simpa using hy2))
     rw[this]
     exact h x Z7
   · rw [if_neg (by simpa using hx)]
     exact Ed hc.2 (fun a ha b hb=>h2 a (aac _ ha) b (aac _ hb)) fun a ha=>h a (aac _ ha)
theorem ya:∀ (l:List Rx)(k:List Rx),(l.foldl fL k).length≤k.length+l.length
 | [],k=>Z1 _
 | x :: l, k => by
   rw[abD]
   refine aau (ya l _) ?_
   have:(fL k x).length≤k.length+1:=by unfold fL;split<;>simp
   rw[Z2];omega
theorem VA {B:Nat}{r:Rx}(hn:Nf r)(hk:r.kind=4)(hw:wd r≤B)(hB:64≤B):FX B r.kids:=by
 obtain⟨_,_,h3,h4,h5,h6,_⟩:=hn.k4 hk
 have hl:aW r.kids=r.kids:=nE fun x hx=>(h4 x hx).2
 refine⟨?_,?_,fun x hx=>ik hw hx⟩
 ·show(c4 (aW r.kids)).length≤B
  rw[hl]
  have h1:=AE r.kids []
  have h2:=Ed h5 h6 fun x hx=>ur (h3 x hx)
  show(r.kids.foldl ot []).length≤B
  rw[h1];simp only[Z9];omega
 ·show(eW (aW r.kids)).length≤B
  rw[hl]
  have h1:=ya r.kids []
  have:=(gK.1 hw).1.2
  show(r.kids.foldl fL []).length≤B
  simp only[Z9] at h1;omega
end Go.Wb
namespace Go.Proofs.YtlapahnodhmcpaaGreat
open Go.Am Go.Wb
theorem vv:∀ (m:Nat)(r:Rx),r.size≤m→wd r≤1099511627776→aq Tryz.prog 143 [rx r] (.p (bool (aQ r))):=by
 intro m
 induction m with
 | zero=>intro a hr _;have:=size_pos a;omega
 | succ m ih =>
 intro r hr hm
 have hkl:=(gK.1 hm).1.2
 have hsl:=(gK.1 hm).1.1
 rw[fi r]
 refine cF RC fun w0 M0 aa=>?_
 refine rM [2,3018] [1,4,5] [] ?_ ?_<;>intro h1
 refine wS [8,4002] [1,12] [] ?_ ?_<;>intro h2'
 refine wZ [2,8008] ?_;rotate_left
 refine wZ [8011] ?_;rotate_left
 refine wS [3006] [1,4,5] [] ?_ ?_<;>intro h3
 refine wS [5,4002] [1,12] [] ?_ ?_<;>intro h4'
 refine wZ [2,8008] ?_;rotate_left
 refine wZ [8011] ?_;rotate_left
 refine wS [3007] [1,4,18] [] ?_ ?_<;>intro h5
 refine wS [5,4002] [1,24] [] ?_ ?_<;>intro h6'
 refine wA [2] [24,26] [] ?_
 refine oC J J J J (DZ ace) ?_
 refine wZ [8007] ?_;rotate_left
 refine wZ [8010] ?_;rotate_left
 refine wS [3007] [1,4,29] [] ?_ ?_<;>intro h7
 refine wS [5,4002] [1,35] [] ?_ ?_<;>intro h8'
 refine wS [2,4003] [1,41] [] ?_ ?_<;>intro h9'
 refine wA [2,1] [41,45] [] ?_
 refine oC J J J J (ih _ (aaT (aax (hU ace) hr)) (ik hm (aP ace))) ?_
 refine wZ [8007] ?_;rotate_left
 refine wZ [8012] ?_;rotate_left
 refine wZ [8018] ?_;rotate_left
 refine wS [3008] [1,4,48] [] ?_ ?_<;>intro h10
 refine wS [8,4002] [1,55] [] ?_ ?_<;>intro h11'
 refine wA [2] [55,57] [] ?_
 refine oC J J J J (gC (p:=fun x=>!aQ x) ace (fun x hx=>mP (ih _ (aaT (aax (dd hx) hr)) (ik hm hx)))) ?_
 refine wZ [8008] ?_;rotate_left
 refine wZ [8011] ?_;rotate_left
 refine wS [3006] [1,48] [] ?_ ?_<;>intro h12
 refine wS [5,4002] [1,55] [] ?_ ?_<;>intro h13'
 refine wA [2] [55,57] [] ?_
 refine oC J J J J (gC (p:=fun x=>!aQ x) ace (fun x hx=>mP (ih _ (aaT (aax (dd hx) hr)) (ik hm hx)))) ?_
 refine wZ [8008] ?_;rotate_left
 refine wZ [8011] ?_;rotate_left
 refine wZ [8010] ?_;rotate_left
 all_goals
  first|(rw[jC (r:=r) ace];simp_all;done)|(rw[lU (r:=r) ace];simp_all;done)|(rw[iW (r:=r) ace,decide_eq_true (p:=r.syms.length=0) ace,decide_eq_true (p:=r.kids.length=1) ace];first|rfl|(simp_all;done))|(rw[iW (r:=r) ace,decide_eq_false (p:=r.kids.length=1) ace,abc,abi];first|done|rfl|(simp_all;done))|(rw[iW (r:=r) ace,decide_eq_false (p:=r.syms.length=0) ace,abc];first|done|rfl|(simp_all;done))|(rw[lE (r:=r) ace];simp_all;done)|(rw[tV (r:=r) ace];done)
theorem Ee {B:Nat}(hB:B≤274877906000)(t:Bool)(ht0:t=false):∀(m:Nat)(r:Rx),r.size≤m→Nf r→wd r≤B→aq Tryz.prog 200 [rx r,bool t] (.p (rx (aJ t r))):=by
 refine fun m=>Nat.strongRecOn m fun m ih=>?_
 intro r hm hn hw
 have hv:=nC hn
 have hl:=(gK.1 hw).1.2
 have hsy:=(gK.1 hw).1.1
 have e:r.kids.map (aJ t)=r.kids:=by rw[ht0];exact xG fun x hx=>s4 (hn.WK hx)
 have hK:∀x∈r.kids.map (aJ t),Nf x:=fun x hx=>hn.WK (e ▸ hx)
 have h5l:r.kind=5→0<(r.kids.map (aJ t)).length:=fun h=>by rw[Z0,(ly hv h).2];decide
 have kb:∀i,i<r.kids.length→aq Tryz.prog 200 [rx (r.kids.getD i default),bool t] (.p (rx (aJ t (r.kids.getD i default)))):=fun i hi =>
  ih _ (aax (hU hi) hm) _ (Z1 _) (hn.WK (aP hi)) (ik hw (aP hi))
 have hs1:r.kind=3→aX Tryz.prog 234 [gJ (r.kids.map (aJ t)).reverse] (.p (rx (cU (r.kids.map (aJ t)).reverse))):=fun h3=>by
  rw[e]
  refine nM (B:=B) ace (by rw[aaD];omega) ?_ fun x hx=>ik hw (List.mem_reverse.1 hx)
  rw[nD fun x hx=>((hn.k3 h3).2.2.2 x (List.mem_reverse.1 hx)).2,aaD];omega
 have hs2:r.kind=3→aX Tryz.prog 234 [gJ (r.kids.map (aJ t))] (.p (rx (cU (r.kids.map (aJ t))))):=fun h3=>by
  rw[e]
  refine nM (B:=B) ace ace ?_ fun x hx=>ik hw hx
  rw[nD fun x hx=>((hn.k3 h3).2.2.2 x hx).2];omega
 have hal:r.kind=4→aX Tryz.prog 235 [gJ (r.kids.map (aJ t))] (.p (rx (gN (r.kids.map (aJ t))))):=fun h4=>by
  rw[e]
  refine AD (B:=B+64) ace ace ?_
  exact VA hn h4 (aau hw (Nat.le_add_right _ _)) (Nat.le_add_left _ _)
 rw[fi r]
 refine ez RL (ZZ J) fun w0 M0 aa=>?_
 refine c6 [2,1005,7,4] [1,2,4,5,9,10,11] [4,5] ?_
 refine lp (fun zm zs=>∃i:Nat,zm=r.kids.length-i∧(i≤r.kids.length)∧zs=⟨47,[(1,vvz (bool t)),(2,vvz (pz r)),(4,.pbox 4 0),(5,.own 5),(9,vvz (gJ r.kids)),(10,vvw (int r.kids.length)),(11,vvw (int i))],[(4,.box 87 [vvw (.sc (.int .i64 0)),vvv,vvv]),(5,.arr 87 (((r.kids.take i).map (aJ t)).map rx))]⟩) ?_ ?_
 exact⟨_,0,rfl,Z5 _,rfl⟩
 rintro zm zs ⟨i,rfl,aZ,rfl⟩
 refine wS [3006] [1,2,4,5,9,10,11,12] [4,5] ?_ ?_<;>intro h1
 refine wA [7,9] [1,2,4,9,10,11,15,16,17] [4,5] ?_
 refine oC J J J J (kb _ ace) ?_
 refine wA [0,1000,5,9002] [1,2,4,5,9,10,11] [4,5] ?_
 exact⟨_,⟨i+1,rfl,ace,by rw[bD ace,Z8,Z8];rfl⟩,ace⟩
 refine wA [8] [1,2,4,5] [4,5] ?_
 rw[show r.kids.take i=r.kids from aaj ace]
 refine wS [3012] [1,2,4,5,23,24] [4,5] ?_ ?_<;>intro h2
 refine wS [3007] [4,5,26] [4,5] ?_ ?_<;>intro h3
 refine wA [3] [4,5,27] [4,5] ?_
 refine oS J (Ah (cells:=WI) RG J J J J J J bX acg (by rw[Z0];omega) aa) J ?_
 refine wA [3] [4,5] [4,5] ?_
 refine aS 47 [(4,_),(5,_)] [(4,_)] aa J ⟨.inl J,.inr ⟨_,_,rfl,rfl,rfl⟩,trivial⟩ ⟨rfl,trivial⟩ ?_
 refine gS [2] [4,29] [4] ?_
 refine oN J J J J J (by first|exact hs1 ace|exact hs2 ace) ?_
 refine wZ [6] ?_
 refine aA J ?_;rotate_left
 refine wA [4] [4,5] [4,5] ?_
 refine aS 47 [(4,_),(5,_)] [(4,_)] aa J ⟨.inl J,.inr ⟨_,_,rfl,rfl,rfl⟩,trivial⟩ ⟨rfl,trivial⟩ ?_
 refine gS [2] [4,29] [4] ?_
 refine oN J J J J J (by first|exact hs1 ace|exact hs2 ace) ?_
 refine wZ [6] ?_
 refine aA J ?_;rotate_left
 refine wS [3007] [2,4,5,23,31] [4,5] ?_ ?_<;>intro h4
 refine wA [2] [4,5] [4,5] ?_
 refine aS 47 [(4,_),(5,_)] [(4,_)] aa J ⟨.inl J,.inr ⟨_,_,rfl,rfl,rfl⟩,trivial⟩ ⟨rfl,trivial⟩ ?_
 refine gS [2] [4,33] [4] ?_
 refine oN J J J J J (hal ace) ?_
 refine wZ [6] ?_
 refine aA J ?_;rotate_left
 refine wS [3007] [2,4,5,35] [4,5] ?_ ?_<;>intro h5
 refine wA [2] [4,5] [4,5] ?_
 refine aS 47 [(4,_),(5,_)] [(4,_)] aa J ⟨.inl J,.inr ⟨_,_,rfl,rfl,rfl⟩,trivial⟩ ⟨rfl,trivial⟩ ?_
 refine gS [2] [4,37] [4] ?_
 refine oP J (ee J Tryz.underlying85 bX J J (by have:=h5l ace;omega) (fun _=>rfl)) ?_
 refine wA [1] [4,39] [4] ?_
 refine oN J J J J J (AB (x:=(r.kids.map (aJ t)).getD 0 default) (fun h4=>by have:=((hK _ (aP (h5l ace))).k4 h4).2.1;omega)) ?_
 refine wZ [6] ?_
 refine aA J ?_;rotate_left
 refine wA [2005,4] [4,42,44] [4] ?_
 refine oE J J J J J J (fb ace) ?_
 refine wA [1] [4,46] [4] ?_
 refine c7 acf ?_
 refine ea J (aV J J J bX J J J J acg J J aa) ?_
 refine fZ ?_
 refine Cx [2] ?_
 refine aA J ?_;rotate_left
 all_goals
  first
   | (rw[zX ace ach];rfl)
   | (rw[zY ace ach];rfl)
   | (rw[kP ace];rfl)
   | (rw[kQ ace];rfl)
   | (rw[jV ace ace ace,mE];rfl)
theorem AF {B:Nat}{r:Rx}(hB:B≤274877906000)(hn:Nf r)(hw:wd r≤B):aq Tryz.prog 146 [rx r] (.p (rx r)):=by
 refine ez RM (ZZ J) fun w0 M0 aa=>?_
 refine c6 [2,7] [1,2,3] [2] ?_
 refine oC J J J J (by have h:=vv _ r (Z1 _) ace;rw[nC hn] at h;exact h) ?_
 refine oP J (cI (b':=false) (sC J J) (rfl)) ?_
 refine wA [8] [2,7] [2] ?_
 refine oC J J J J (Ee hB false J _ _ (Z1 _) hn hw) ?_
 refine wZ [4] ?_
 refine aA J ?_
 rw[s4 hn];rfl
theorem B1 {B:Nat}{r:Rx}{a:Int}(hB:B≤274877906000)(hn:Nf r)(hw:wd r≤B)(hd:xQ B a r):aX Tryz.prog 150 [rx r,int a] (.p (rx (dR a r))):=by
 refine bk Vy (ZZ J) fun w0 M0 aa=>?_
 refine c6 [2,6] [1,4,5] [4] ?_
 refine oC J J J J (AF (B:=B) ace hn hw) ?_
 refine wA [1] [4,6,7] [4] ?_
 refine oN J J J J J (tn hB a _ _ (Z1 _) hn hw hd) ?_
 refine wZ [4] ?_
 refine aA J ?_
 rfl
theorem Ef {r:Rx}(h:wd r≤1099511627776):aq Tryz.prog 152 [rx r] (.p (bool (aQ r&&cP r))):=by
 refine cF Ve fun w0 M0 aa=>?_
 refine c6 [2,6] [1,3] [] ?_
 refine oC J J J J (vv _ _ (Z1 _) h) ?_
 refine wS [4001] [1,5] [] ?_ ?_<;>intro h1'
 refine wA [1] [5,6] [] ?_
 refine oC J J J J (mS _ _ (Z1 _) h) ?_
 refine wZ [8005] ?_
 simp_all
 refine wZ [8007] ?_
 simp_all
end Go.Proofs.YtlapahnodhmcpaaGreat
namespace Go.Wf
open Go.Am Go.Wb
def Eg (i:Nat):List AV:=(List.range 64).map fun j:Nat=>int (if j<i then(j:Int) else 0)
theorem NA {i:Nat}:(Eg i).length=64:=by unfold Eg;rw[Z0];rfl
theorem NB {i:Nat}(h:i<64):(Eg i).set i (int i)=Eg (i+1):=by
 unfold Eg
 refine aa0 fun j=>?_
 rw[List.getElem?_set,Z6,Z6,Z0,aai]
 by_cases hj:i=j
 ·subst hj
  rw[if_pos rfl,if_pos h,aa5 h,aaK,if_pos (Nat.lt_succ_self _)]
 ·rw[if_neg hj]
  rcases aaq j 64 with hlt|hge
  ·rw[aa5 hlt,aaK,aaK]
   by_cases q:j<i
   ·rw[if_pos q,if_pos ace]
   ·rw[if_neg q,if_neg ace]
  ·rw[aaz (by rw[aai];exact hge)];rfl
theorem VB:Eg 64=anyS.map int:=by
 unfold Eg anyS
 rw[abY]
 refine ab3 fun j hj=>?_
 rw[if_pos (aap.1 hj)];rfl
theorem Tn:rx jH=.agg [int 5,ints [],.sl [.agg [int 2,ints anyS,.sl []]]]:=by
 unfold jH
 rw[mE]
 show AV.agg [int 5,ints [],.sl [rx (.mk 2 anyS [])]]=_
 rw[mE];rfl
theorem yb (r:Rx):(fE r).size≤71+r.size:=by
 rw[size_eq]
 show 1+0+(jH.size+(r.size+0))≤_
 have:=Nn;omega
def ZS (z:Rx):List AV:=[int z.kind,ints z.syms,.sl (Rx.gi z.kids)]
end Go.Wf
namespace Go.Proofs.YtlapahnodhmcpaaGreat
open Go.Am Go.Wb Go.Wc Go.Wf Go.We
abbrev Qa (z:Rx):Ob:=.box 87 [vvw (int z.kind),vvw (ints z.syms),vvw (.sl (Rx.gi z.kids))]
theorem VC:tP Tryz.prog 210 Tryz.f210.ntmps 2 87 3 (Tryz.f210.body.getD .skip):=⟨Tryz.f210,Tryz.func210,rfl,rfl,rfl,acf,iC,bX⟩
theorem gE {l:List Rx}:aX Tryz.prog 210 [gJ l] (.p (rx (.mk 3 [] l))):=by
 refine bk VC (ZZ J) fun w0 M0 aa=>?_
 refine zM [13] ?_
 refine aA J ?_
 rw[mE];rfl
theorem VD:tP Tryz.prog 211 Tryz.f211.ntmps 0 87 3 (Tryz.f211.body.getD .skip):=⟨Tryz.f211,Tryz.func211,rfl,rfl,rfl,acf,iC,bX⟩
theorem iZ:aq Tryz.prog 211 [] (.p (rx jH)):=by
 refine ez VD (ZZ J) fun w0 M0 aa=>?_
 refine c6 [7] [0] [0] ?_
 refine oS J (ql J J J J Tryz.underlying22 Ux Xs J J J (by first|(simp only[ll];omega)|omega) (by first|(simp only[ll];omega)|omega) (by first|(simp only[ll];omega)|omega) aa) J ?_
 refine wA [7] [0,1,4] [0,3] ?_
 refine oP J (CE J Tryz.underlying22 J) ?_
 refine wA [4] [0,1,5,6] [0,3] ?_
 refine lp (fun zm zs=>∃i:Nat,zm=64-i∧(i≤64)∧zs=⟨18,[(0,.pbox 0 0),(1,.own 3),(5,vvw (int 64)),(6,vvw (int i))],[(0,.box 87 [vvw (.sc (.int .i64 0)),vvv,vvv]),(3,.arr 3 (Eg i))]⟩) ?_ ?_
 exact⟨_,0,rfl,Z5 _,rfl⟩
 rintro zm zs ⟨i,rfl,aZ,rfl⟩
 refine wS [3006] [0,1,5,6,7] [0,3] ?_ ?_<;>intro h1
 refine wA [15] [0,1,5,6,9,10,11] [0,3] ?_
 refine oP J (aD J Tryz.underlying22 y3 J J J (by rw[NA];omega)) ?_
 refine oS J (ay J J J y3 J J (ix (by rw[aai];omega)) J J (.inl J) J (ZZ J) aa) J ?_
 refine wA [4,9002] [0,1,5,6] [0,3] ?_
 exact⟨_,⟨i+1,rfl,ace,by rw[←NB ace];rfl⟩,ace⟩
 refine wA [7] [0,1] [0,3] ?_
 refine aS 18 [(0,_),(1,_)] [(0,_)] aa J ⟨.inl J,.inr ⟨_,_,rfl,rfl,rfl⟩,trivial⟩ ⟨rfl,trivial⟩ ?_
 refine gS [2] [0,14] [0] ?_
 refine oP J (aC (aF J Ga oI J J J) J) ?_
 refine wZ [0,5] ?_
 refine aA J ?_
 rw[show i=64 by omega,VB,Tn];rfl
theorem VE:QP Tryz.prog 227 Tryz.f227.ntmps (Tryz.f227.body.getD .skip):=⟨Tryz.f227,Tryz.func227,rfl,rfl,rfl,acf⟩
theorem B2 {B:Nat}{z:Rx}{x:Int}(hB:B≤274877906000)(hn:Nf z)(hw:wd z≤B)(hd:xQ B x z)(hw2:wd (dR x z)≤B):lg Tryz.prog 227 [vvz (int x),.pbox 1000000 0] [(1000000,Qa z)] (vvw (.tup [])) [(1000000,Qa (dR x z))]:=by
 refine pn VE (ZZ J) fun w0 M0 aa=>?_
 refine c6 [3] [1,3,4] [1000000] ?_
 refine oN J J J J J (B1 hB hn hw hd) ?_
 refine oC J J J J (AF hB (re x hn) hw2) ?_
 refine wZ [2] ?_
 refine ec (o1:=[(1000000,_)]) ⟨rfl,trivial⟩ ?_
 rfl
abbrev VF:=dU 1 Tryz.func228
theorem B3 {z:Rx}(hn:Nf z)(hw:wd z≤1099511627776):lg Tryz.prog 228 [.pbox 1000000 0] [(1000000,Qa z)] (vvw (bool (cP z))) [(1000000,Qa z)]:=by
 refine gz VF (ZZ J) fun w0 M0 aa=>?_
 refine c6 [8] [2] [1000000] ?_
 refine oC J J J J (by have h:=Ef hw;rw[nC hn,aaZ] at h;exact h) ?_
 refine wZ [4] ?_
 refine ey (o1:=[(1000000,_)]) J ⟨rfl,trivial⟩ ?_
 exact⟨rfl,rfl⟩
theorem VG:G7 Tryz.prog 185 Tryz.f185.ntmps 2 3 (Tryz.f185.body.getD .skip):=⟨Tryz.f185,Tryz.func185,rfl,rfl,rfl,acf⟩
theorem vx {r:Rx}(h:r.size≤1099511627):Lr Tryz.prog 185 [rx r] 87 (ZS (dy (fE r))) 227 228:=by
 have hs:(fE r).size≤137438953472:=by have:=yb r;omega
 refine yV VG (ZZ J) fun w0 M0 aa=>?_
 refine c6 [2,5] [1] [] ?_
 refine tL mixed acf _ J ?_
 refine A0 acf (bO (n:=7) acf ?_)
 refine wO (i:=0) (j:=1) (k:=5) acf J J J J J J (aL J J (cm J J J (iZ) aa)) (aL J J (aM J iC bX J (ZZ J))) (cM J J J J J oI J aa) ?_ ?_ ?_
 refine eJ (i:=1) (j:=5) acf J J J J (aL J J (aM J iC bX J (ZZ J))) (cM J J J J J oI J aa) ?_ ?_
 refine eJ (i:=2) (j:=5) acf J J J J (aL J J (bY J Tryz.underlying85 jr J J J J aa)) (cM J J J J J oI J aa) ?_ ?_
 refine eJ (i:=3) (j:=5) acf J J J J (aL J J (bG J J J J (gE (l:=[jH,r])) aa)) (cM J J J J J oI J aa) ?_ ?_
 refine eJ (i:=4) (j:=5) acf J J J J (aL J J (cm J J J (ep (r:=fE r) ace) aa)) (cM J J J J J oI J aa) ?_ ?_
 refine aH (i:=5) acf J J (cM J J J J J oI J aa) ?_
 refine aH (i:=6) acf J J (aV J J J bX J J J J acg J J aa) ?_
 refine bg acf ?_
 refine jl [3] [4] [4] ?_
 refine wZ [0,5,12] ?_
 refine gn J J J ?_
 rfl
 refine aH (i:=4) acf J J (aL J J (cm J J J (ep (r:=fE r) ace) aa)) ?_
 refine aH (i:=6) acf J J (aV J J J bX J J J J acg J J aa) ?_
 refine bg acf ?_
 refine jl [3] [4] [4] ?_
 refine wZ [0,5,12] ?_
 refine gn J J J ?_
 rfl
 refine aH (i:=3) acf J J (aL J J (bG J J J J (gE (l:=[jH,r])) aa)) ?_
 refine aH (i:=4) acf J J (aL J J (cm J J J (ep (r:=fE r) ace) aa)) ?_
 refine aH (i:=6) acf J J (aV J J J bX J J J J acg J J aa) ?_
 refine bg acf ?_
 refine jl [3] [4] [4] ?_
 refine wZ [0,5,12] ?_
 refine gn J J J ?_
 rfl
 refine xe 2 ?_
 refine aH (i:=3) acf J J (aL J J (bG J J J J (gE (l:=[jH,r])) aa)) ?_
 refine aH (i:=4) acf J J (aL J J (cm J J J (ep (r:=fE r) ace) aa)) ?_
 refine aH (i:=6) acf J J (aV J J J bX J J J J acg J J aa) ?_
 refine bg acf ?_
 refine jl [3] [4] [4] ?_
 refine wZ [0,5,12] ?_
 refine gn J J J ?_
 rfl
 refine xe 1 ?_
 refine xe 2 ?_
 refine aH (i:=3) acf J J (aL J J (bG J J J J (gE (l:=[jH,r])) aa)) ?_
 refine aH (i:=4) acf J J (aL J J (cm J J J (ep (r:=fE r) ace) aa)) ?_
 refine aH (i:=6) acf J J (aV J J J bX J J J J acg J J aa) ?_
 refine bg acf ?_
 refine jl [3] [4] [4] ?_
 refine wZ [0,5,12] ?_
 refine gn J J J ?_
 rfl
 refine eJ (i:=0) (j:=5) acf J J J J (aL J J (cm J J J (iZ) aa)) (cM J J J J J oI J aa) ?_ ?_
 refine eJ (i:=2) (j:=5) acf J J J J (aL J J (bY J Tryz.underlying85 jr J J J J aa)) (cM J J J J J oI J aa) ?_ ?_
 refine eJ (i:=3) (j:=5) acf J J J J (aL J J (bG J J J J (gE (l:=[jH,r])) aa)) (cM J J J J J oI J aa) ?_ ?_
 refine eJ (i:=4) (j:=5) acf J J J J (aL J J (cm J J J (ep (r:=fE r) ace) aa)) (cM J J J J J oI J aa) ?_ ?_
 refine aH (i:=5) acf J J (cM J J J J J oI J aa) ?_
 refine aH (i:=6) acf J J (aV J J J bX J J J J acg J J aa) ?_
 refine bg acf ?_
 refine jl [3] [4] [4] ?_
 refine wZ [0,5,12] ?_
 refine gn J J J ?_
 rfl
 refine aH (i:=4) acf J J (aL J J (cm J J J (ep (r:=fE r) ace) aa)) ?_
 refine aH (i:=6) acf J J (aV J J J bX J J J J acg J J aa) ?_
 refine bg acf ?_
 refine jl [3] [4] [4] ?_
 refine wZ [0,5,12] ?_
 refine gn J J J ?_
 rfl
 refine aH (i:=3) acf J J (aL J J (bG J J J J (gE (l:=[jH,r])) aa)) ?_
 refine aH (i:=4) acf J J (aL J J (cm J J J (ep (r:=fE r) ace) aa)) ?_
 refine aH (i:=6) acf J J (aV J J J bX J J J J acg J J aa) ?_
 refine bg acf ?_
 refine jl [3] [4] [4] ?_
 refine wZ [0,5,12] ?_
 refine gn J J J ?_
 rfl
 refine xe 2 ?_
 refine aH (i:=3) acf J J (aL J J (bG J J J J (gE (l:=[jH,r])) aa)) ?_
 refine aH (i:=4) acf J J (aL J J (cm J J J (ep (r:=fE r) ace) aa)) ?_
 refine aH (i:=6) acf J J (aV J J J bX J J J J acg J J aa) ?_
 refine bg acf ?_
 refine jl [3] [4] [4] ?_
 refine wZ [0,5,12] ?_
 refine gn J J J ?_
 rfl
 refine aH (i:=0) acf J J (aL J J (cm J J J (iZ) aa)) ?_
 refine xe 2 ?_
 refine aH (i:=3) acf J J (aL J J (bG J J J J (gE (l:=[jH,r])) aa)) ?_
 refine aH (i:=4) acf J J (aL J J (cm J J J (ep (r:=fE r) ace) aa)) ?_
 refine aH (i:=6) acf J J (aV J J J bX J J J J acg J J aa) ?_
 refine bg acf ?_
 refine jl [3] [4] [4] ?_
 refine wZ [0,5,12] ?_
 refine gn J J J ?_
 rfl
 refine eJ (i:=0) (j:=1) acf J J J J (aL J J (cm J J J (iZ) aa)) (aL J J (aM J iC bX J (ZZ J))) ?_ ?_
 refine xe 1 ?_
 refine xe 2 ?_
 refine aH (i:=3) acf J J (aL J J (bG J J J J (gE (l:=[jH,r])) aa)) ?_
 refine aH (i:=4) acf J J (aL J J (cm J J J (ep (r:=fE r) ace) aa)) ?_
 refine aH (i:=6) acf J J (aV J J J bX J J J J acg J J aa) ?_
 refine bg acf ?_
 refine jl [3] [4] [4] ?_
 refine wZ [0,5,12] ?_
 refine gn J J J ?_
 rfl
 refine aH (i:=0) acf J J (aL J J (cm J J J (iZ) aa)) ?_
 refine xe 2 ?_
 refine aH (i:=3) acf J J (aL J J (bG J J J J (gE (l:=[jH,r])) aa)) ?_
 refine aH (i:=4) acf J J (aL J J (cm J J J (ep (r:=fE r) ace) aa)) ?_
 refine aH (i:=6) acf J J (aV J J J bX J J J J acg J J aa) ?_
 refine bg acf ?_
 refine jl [3] [4] [4] ?_
 refine wZ [0,5,12] ?_
 refine gn J J J ?_
 rfl
end Go.Proofs.YtlapahnodhmcpaaGreat
