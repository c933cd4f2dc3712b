/-
  Part of the proof.
-/
import Derived.Test.YtlapahnodhmcpaaGreatJ0
import Derived.Test.YtlapahnodhmcpaaGreatJ16
import Derived.Test.YtlapahnodhmcpaaGreatJ37
import Derived.Test.YtlapahnodhmcpaaGreatJ22
set_option linter.unusedVariables false
set_option linter.unusedSectionVars false
set_option linter.unusedSimpArgs false
set_option maxRecDepth 100000
set_option maxHeartbeats 40000000
namespace Go.Proofs.YtlapahnodhmcpaaGreat
open Go.Am Go.Wb Go.Wc Go.Wf Go.We
theorem qe {a:List cQ}(ha:a.length≤1000):aq Tryz.prog 65 [ah a] (.p (rx (gH a.length))):=GB ha
theorem YR:tP Tryz.prog 35 Tryz.f35.ntmps 4 29 4 (Tryz.f35.body.getD .skip):=⟨Tryz.f35,Tryz.func35,rfl,rfl,rfl,acf,pS,l8⟩
theorem tI {a:List cQ}{l:List Int}(ha:0<a.length∧a.length≤60)(hl:l.length≤9223372036854775807)(h64:iM l):aX Tryz.prog 35 [ah a,ints l] (.p (df (EZ a.length l))):=by
 have hb:=fun k=>Cc l k
 have hb0:=hb 0
 have hb1:=hb 1
 have hb30:=hb 30
 have hev:=sh a.length
 have han:=Ow ha
 have henf:=E0 ha
 have hgr:=qL a.length l (1+aw l 1 % 3).toNat
 refine bk YR (ZZ J) fun w0 M0 aa=>?_
 refine c6 [14] [0,1,4,5] [4,5] ?_
 refine bL 5 0 40 122 29 aa J J J J ?_
 refine bL 5 1 41 89 29 aa J J J J ?_
 refine bL 5 2 42 97 29 aa J J J J ?_
 refine gS [5] [0,1,4,5,6] [4,5,40,41,42] ?_
 refine lp (fun zm zs=>∃i:Nat,zm=3-i∧((i:Int)≤aw l 0 % 3)∧zs=⟨181,[(0,vvw (ah a)),(1,vvw (ints l)),(4,.pbox 4 0),(5,.pbox 5 0),(6,vvw (int i))],[(4,.box 29 [vvv,vvv,vvv,vvv]),(5,.box 29 [.own 40,.own 41,.own 42,vvv]),(40,.arr 122 ((eI a.length l i).map jJ)),(41,.arr 89 []),(42,.arr 97 [])]⟩) ?_ ?_
 exact⟨_,0,rfl,ace,rfl⟩
 rintro zm zs ⟨i,rfl,aZ,rfl⟩
 refine wA [5] [0,1,4,5,6,19,20] [4,5,40,41,42] ?_
 refine oC J J J J (eZ (i:=0) h64 hl ace) ?_
 refine wS [0,3003] [0,1,4,5,6,23] [4,5,40,41,42] ?_ ?_<;>intro h1
 refine wA [7,1] [0,1,4,5,6,26,27] [4,5,40,41,42] ?_
 refine oP J (pb (f:=aj) (l:=GW) J Tryz.underlying27 Xv J J (by simp only[Z2,Z9];omega) (fun _=>rfl)) ?_
 refine wA [8] [0,1,4,5,6,7] [4,5,7,40,41,42] ?_
 refine bL 7 1 43 3 122 aa J J J J ?_
 refine gS [5] [0,1,4,5,6,7,8] [4,5,7,40,41,42,43] ?_
 refine lp (fun zm zs=>∃k:Nat,zm=a.length-k∧(k≤a.length)∧zs=⟨181,[(0,vvw (ah a)),(1,vvw (ints l)),(4,.pbox 4 0),(5,.pbox 5 0),(6,vvw (int i)),(7,.pbox 7 0),(8,vvw (int k))],[(4,.box 29 [vvv,vvv,vvv,vvv]),(5,.box 29 [.own 40,.own 41,.own 42,vvv]),(7,.box 122 [vvw (aj (GW.getD i default)),.own 43]),(40,.arr 122 ((eI a.length l i).map jJ)),(41,.arr 89 []),(42,.arr 97 []),(43,.arr 3 ((kI l i k).map int))]⟩) ?_ ?_
 exact⟨_,0,rfl,Z5 _,rfl⟩
 rintro zm zs ⟨k,rfl,fU,rfl⟩
 have hbi:=hb (1+i)
 have hq:=Int.ediv_nonneg hbi.1 (show 0≤(k:Int)+1 by omega)
 have hsl:=eA l i k
 refine wS [5,3003] [0,1,4,5,6,7,8,34] [4,5,7,40,41,42,43] ?_ ?_<;>intro h2
 refine wS [4011] [0,1,4,5,6,7,8,40] [4,5,7,40,41,42,43] ?_ ?_<;>intro h3'
 refine wA [17,1000,7,9002] [0,1,4,5,6,7,8] [4,5,7,40,41,42,43] ?_;rotate_left
 refine wA [2] [0,1,4,5,6,7,8,40,41,42] [4,5,7,40,41,42,43] ?_
 refine oP J (dF (a':=((1+i:Nat):Int)) (cH J J J ace) ace) ?_
 refine oC J J J J (eZ (i:=1+i) h64 hl ace) ?_
 refine wS [1,0,0,3004] [0,1,4,5,6,7,8,50] [4,5,7,40,41,42,43] ?_ ?_<;>intro h4
 refine wA [5,1000,7,9002] [0,1,4,5,6,7,8] [4,5,7,40,41,42,43] ?_;rotate_left
 refine wA [6,9002] [0,1,4,5,6,7,8] [4,5,7,40,41,42,43] ?_;rotate_left
 refine wA [6] [0,1,4,5,6,7] [4,5,7,40,41,42,43] ?_
 refine ao.imp (hJ 7 1 aa J J J J) ?_
 refine Cw [4,5000] ?_
 refine oS J (step_append J J J J Tryz.underlying24 UN J J aa (cZ J (cw (by rfl))) (by unfold eI;simp only[Z0,aai,Z2,Z9];omega) (by unfold eI;simp only[Z0,aai,Z2,Z9];omega)) J ?_
 refine wA [7,9002] [0,1,4,5,6] [4,5,40,41,42] ?_
 obtain rfl:k=a.length:=ace
 exact⟨_,⟨i+1,rfl,ace,by unfold eI;rw[aaP,Z8,Z8];rfl⟩,ace⟩
 refine wA [9] [0,1,4,5,63] [4,5,40,41,42] ?_
 refine oC J J J J (eZ (i:=1) h64 hl ace) ?_
 refine wA [0,0,10] [0,1,4,5,9,10] [4,5,40,41,42] ?_
 obtain rfl:i=(aw l 0 % 3).toNat:=ace
 refine lp (fun zm zs=>∃i:Nat,zm=4-i∧((i:Int)≤1+aw l 1 % 3)∧zs=⟨181,[(0,vvw (ah a)),(1,vvw (ints l)),(4,.pbox 4 0),(5,.pbox 5 0),(9,vvw (int (1+aw l 1 % 3))),(10,vvw (int i))],[(4,.box 29 [vvv,vvv,vvv,vvv]),(5,.box 29 [.own 40,.own 41,.own 42,vvv]),(40,.arr 122 ((eI a.length l (aw l 0 % 3).toNat).map jJ)),(41,.arr 89 ((dg a.length l i).map bm)),(42,.arr 97 [])]⟩) ?_ ?_
 exact⟨_,0,rfl,ace,rfl⟩
 rintro zm zs ⟨i,rfl,Nl,rfl⟩
 refine wS [3008] [0,1,4,5,9,10,69] [4,5,40,41,42] ?_ ?_<;>intro h5
 refine wA [5] [0,1,4,5,9,10] [4,5,40,41,42] ?_
 refine bw (n:=181) 1 (fun p=>[7].getD p 0) (fun p=>[[(4,.box 29 [vvv,vvv,vvv,vvv]),(5,.box 29 [.own 40,.own 41,.own 42,vvv]),(40,.arr 122 ((eI a.length l (aw l 0 % 3).toNat).map jJ)),(41,.arr 89 ((dg a.length l i).map bm)),(42,.arr 97 [])],[(4,.box 29 [vvv,vvv,vvv,vvv]),(5,.box 29 [.own 40,.dead,.own 42,vvv]),(40,.arr 122 ((eI a.length l (aw l 0 % 3).toNat).map jJ)),(42,.arr 97 []),(79,.arr 89 ((dg a.length l i).map bm++[bm (yF a.length l i)]))]].getD p []) 8 [(0,some [0]),(1,some [0]),(2,none),(3,none),(4,none),(5,none),(6,none)] [(72,.pbox 5 1),(73,.own 41),(74,vvw (ah a)),(75,vvw (ints l)),(76,vvw (int i)),(77,vvw (bm (yF a.length l i))),(78,vvw (.sl [bm (yF a.length l i)])),(79,.own 79),(0,vvw (ah a)),(1,vvw (ints l)),(4,.pbox 4 0),(5,.pbox 5 0),(9,vvw (int (1+aw l 1 % 3))),(10,vvw (int i))] mixed acf acf acf acf acf ?_ (fun t d h=>h) J ?_ ?_ ?_
 · rfl
 · exact
     ai (ai ((aK J F6 J J)) (trivial)) (
     ai (ai ((ae J PM J J J)) (trivial)) (
     ai (fun _=>(af J J)) (
     ai (fun _=>(af J J)) (
     ai (fun _=>(af J J)) (
     ai (fun _=>(bG J J J J (Ko ha hl h64 ace) aa)) (
     ai (fun _=>(bY J Tryz.underlying25 UK J J J J aa)) (
     trivial)))))))
 · exact ai (fun X fl dO dh=>db (T:=25) (t:=79) (u:=73) (id:=41) (y:=.tmp 78) J J J fl Tryz.underlying25 UK ((dh 73 acg).trans J) J (cZ (jR ((dh 78 acg).trans J)) (cw (by rfl))) (by simp only[Z0,qL,Z2,Z9];omega) (by simp only[Z0,qL,Z2,Z9];omega) J dO J J J aa) (trivial)
 refine bO (n:=2) acf ?_
 refine xe 8 ?_
 refine aH (i:=9) acf J J (aU J J J Xx J J J J J aa) ?_
 refine bg acf ?_
 refine jl [2] [0,1,4,5,9,10] [4,5,40,42,79] ?_
 refine ao.imp (jG 5 1 41 aa J J J J J J J J J) ?_
 refine gS [2,9002] [0,1,4,5,9,10] [4,5,40,41,42] ?_
 exact⟨_,⟨i+1,rfl,ace,by unfold dg;rw[aaP,Z8,Z8];rfl⟩,ace⟩
 refine wA [9] [0,1,4,5,81] [4,5,40,41,42] ?_
 refine oC J J J J (qe ace) ?_
 refine oN J J J J J (yD henf ace) ?_
 refine wA [7] [0,1,4,5,11,84] [4,5,11,40,41,42] ?_
 refine oC J J J J (eZ (i:=30) h64 hl ace) ?_
 refine wA [0,0,10] [0,1,4,5,9,11,12] [4,5,11,40,41,42] ?_
 obtain rfl:i=(1+aw l 1 % 3).toNat:=ace
 refine lp (fun zm zs=>∃i:Nat,zm=4-i∧((i:Int)≤1+aw l 30 % 3)∧zs=⟨181,[(0,vvw (ah a)),(1,vvw (ints l)),(4,.pbox 4 0),(5,.pbox 5 0),(9,vvw (int (1+aw l 30 % 3))),(11,.pbox 11 0),(12,vvw (int i))],[(4,.box 29 [vvv,vvv,vvv,vvv]),(5,.box 29 [.own 40,.own 41,.own 42,vvv]),(11,.box 87 [vvw (int (bU a.length).kind),vvw (ints (bU a.length).syms),vvw (.sl (Rx.gi (bU a.length).kids))]),(40,.arr 122 ((eI a.length l (aw l 0 % 3).toNat).map jJ)),(41,.arr 89 ((dg a.length l (1+aw l 1 % 3).toNat).map bm)),(42,.arr 97 ((eD a.length l (gR a.length l) i).map bT))]⟩) ?_ ?_
 exact⟨_,0,rfl,ace,rfl⟩
 rintro zm zs ⟨i,rfl,Rz,rfl⟩
 have hbX:=hb (31+i)
 refine wS [3008] [0,1,4,5,9,11,12,90] [4,5,11,40,41,42] ?_ ?_<;>intro h6
 refine wA [9] [0,1,4,5,9,11,12,93,94] [4,5,11,40,41,42] ?_
 refine oP J (dF (a':=((31+i:Nat):Int)) (cH J J J ace) ace) ?_
 refine oC J J J J (eZ (i:=31+i) h64 hl ace) ?_
 refine wA [4] [0,1,4,5,9,11,12,13] [4,5,11,40,41,42] ?_
 refine bw (n:=181) 2 (fun p=>[9,10].getD p 0) (fun p=>[[(4,.box 29 [vvv,vvv,vvv,vvv]),(5,.box 29 [.own 40,.own 41,.own 42,vvv]),(11,.box 87 [vvw (int (bU a.length).kind),vvw (ints (bU a.length).syms),vvw (.sl (Rx.gi (bU a.length).kids))]),(40,.arr 122 ((eI a.length l (aw l 0 % 3).toNat).map jJ)),(41,.arr 89 ((dg a.length l (1+aw l 1 % 3).toNat).map bm)),(42,.arr 97 ((eD a.length l (gR a.length l) i).map bT))],[(4,.box 29 [vvv,vvv,vvv,vvv]),(5,.box 29 [.own 40,.own 41,.own 42,vvv]),(11,.box 87 [vvw (int (bU a.length).kind),vvw (ints (bU a.length).syms),vvw (.sl (Rx.gi (bU a.length).kids))]),(14,.box 97 [vvw (.sc (.string ⟨#[]⟩)),vvw (.sc (.int .i64 0)),vvv,vvv,vvw (.sc (.int .i64 0)),vvv]),(40,.arr 122 ((eI a.length l (aw l 0 % 3).toNat).map jJ)),(41,.arr 89 ((dg a.length l (1+aw l 1 % 3).toNat).map bm)),(42,.arr 97 ((eD a.length l (gR a.length l) i).map bT))],[(4,.box 29 [vvv,vvv,vvv,vvv]),(5,.box 29 [.own 40,.own 41,.own 42,vvv]),(11,.box 87 [vvw (int (bU a.length).kind),vvw (ints (bU a.length).syms),vvw (.sl (Rx.gi (bU a.length).kids))]),(14,.box 97 [vvw (aj ([110]++gQ ((i:Int)+1))),vvw (int (dy (bU a.length)).kind),vvw (ints (dy (bU a.length)).syms),vvw (.sl (Rx.gi (dy (bU a.length)).kids)),vvw (int (aw l (31+i) % 2)),vvv]),(40,.arr 122 ((eI a.length l (aw l 0 % 3).toNat).map jJ)),(41,.arr 89 ((dg a.length l (1+aw l 1 % 3).toNat).map bm)),(42,.arr 97 ((eD a.length l (gR a.length l) i).map bT))]].getD p []) 11 [(0,none),(1,none),(2,none),(3,none),(4,some [0,1]),(5,none),(6,none),(7,none),(8,none)] [(97,vvw (int i)),(98,vvw (int ((i:Int)+1))),(99,vvw (aj (gQ ((i:Int)+1)))),(100,vvw (aj ([110]++gQ ((i:Int)+1)))),(101,vvw (rx (bU a.length))),(102,vvw (rx (dy (bU a.length)))),(103,vvw (int (aw l (31+i)))),(104,vvw (int (aw l (31+i) % 2))),(105,vvw (.agg [aj ([110]++gQ ((i:Int)+1)),int (dy (bU a.length)).kind,ints (dy (bU a.length)).syms,.sl (Rx.gi (dy (bU a.length)).kids),int (aw l (31+i) % 2),.sc (.slice none 0 0)])),(14,.pbox 14 0),(0,vvw (ah a)),(1,vvw (ints l)),(4,.pbox 4 0),(5,.pbox 5 0),(9,vvw (int (1+aw l 30 % 3))),(11,.pbox 11 0),(12,vvw (int i)),(13,vvw (int (aw l (31+i))))] mixed acf acf acf acf acf ?_ (fun t d h=>h) J ?_ ?_ ?_
 · rfl
 · exact
     ai (fun _=>(af J J)) (
     ai (fun _=>(cH J J J ace)) (
     ai (fun _=>(bG J J J J (jI (n:=(i:Int)+1) ace) aa)) (
     ai (fun _=>(jz J J J (by have:=nS ((i:Int)+1);simp only[Z2,Z9];omega))) (
     ai (ai ((eU J iC bX J J J J)) (ai ((eU J iC bX J J J J)) (trivial))) (
     ai (fun _=>(bG J J J J (gg (r:=(bU a.length)) ace) aa)) (
     ai (fun _=>(af J J)) (
     ai (fun _=>(jA J J J ace)) (
     ai (fun _=>(aF J PU Ni J J J)) (
     trivial)))))))))
 · exact ai (fun X fl dO dh=>gZ (t:=14) J J J J fl Ni J J (fun t' z h hne=>fz (by rfl) (dO t' z h) hne) J aa) (ai (fun X fl dO dh=>cr J (cq (u:=14) (v:=105) (id:=14) J J fl JF ((dh 14 acg).trans J) J ((dh 105 acg).trans J) J acg J J (fun t' z h=>cO (by rfl) (dO t' z h)) J aa)) (trivial))
 refine bO (n:=0) acf ?_
 refine bg acf ?_
 refine jl [5] [0,1,4,5,9,11,12,13,14,106] [4,5,11,14,40,41,42] ?_
 refine wS [0,3003] [0,1,4,5,9,11,12,13,14,108] [4,5,11,14,40,41,42] ?_ ?_<;>intro h7
 refine wZ [2001,6002,6001,6000,6000,5000] ?_
 refine oF J J J J J J J (mf [aw l (31+i) / 5 % (a.length:Int)]) ?_
 refine wZ [6000,5000] ?_
 refine oF J J J J J J J (qJ (l:=[(bU a.length),fP (aw l (31+i) / 5 % (a.length:Int))]) (by rw[qM,mj];omega)) ?_
 refine oF J J J J J J J (gg (r:=cU [(bU a.length),fP (aw l (31+i) / 5 % (a.length:Int))]) (by have:=qd (bU a.length) (fP (aw l (31+i) / 5 % (a.length:Int)));rw[mj] at this;omega)) ?_
 refine wA [1] [0,1,4,5,9,11,12,13,14,119,120] [4,5,11,14,40,41,42] ?_
 refine c7 acf ?_
 refine ea J (aV J J J bX J J J J acg J J aa) ?_
 refine fZ ?_
 refine ZK [5,3003] [0,1,4,5,9,11,12,13,14,123] [4,5,11,14,40,41,42] ?_ ?_<;>intro h8
 refine wA [2001,1] [0,1,4,5,9,11,12,13,14,124] [4,5,11,14,40,41,42] ?_
 refine oE J J J J J J (qe ace) ?_
 refine wZ [6001,5000] ?_
 refine oF J J J J J J J (qJ (l:=[gH a.length,(bU a.length)]) (by rw[qM];omega)) ?_
 refine oF J J J J J J J (gg (r:=cU [gH a.length,(bU a.length)]) (by have:=qd (gH a.length) (bU a.length);omega)) ?_
 refine wA [1] [0,1,4,5,9,11,12,13,14,129,130] [4,5,11,14,40,41,42] ?_
 refine c7 acf ?_
 refine ea J (aV J J J bX J J J J acg J J aa) ?_
 refine fZ ?_
 refine jl [4,0,0,5] [0,1,4,5,9,11,12,14,15] [4,5,11,14,40,41,42] ?_
 refine bL 14 5 44 112 97 aa J J J J ?_
 refine gS [5] [0,1,4,5,9,11,12,14,15,16] [4,5,11,14,40,41,42,44] ?_
 refine lp (fun zm zs=>∃(f:Rx)(k:Nat),zm=4-k∧(f=kg a.length (aw l (31+i)))∧((k:Int)≤2+aw l (31+i) / 7 % 3)∧zs=⟨181,[(0,vvw (ah a)),(1,vvw (ints l)),(4,.pbox 4 0),(5,.pbox 5 0),(9,vvw (int (1+aw l 30 % 3))),(11,.pbox 11 0),(12,vvw (int i)),(14,.pbox 14 0),(15,vvw (int (2+aw l (31+i) / 7 % 3))),(16,vvw (int k))],[(4,.box 29 [vvv,vvv,vvv,vvv]),(5,.box 29 [.own 40,.own 41,.own 42,vvv]),(11,.box 87 [vvw (int (bU a.length).kind),vvw (ints (bU a.length).syms),vvw (.sl (Rx.gi (bU a.length).kids))]),(14,.box 97 [vvw (aj ([110]++gQ ((i:Int)+1))),vvw (int f.kind),vvw (ints f.syms),vvw (.sl (Rx.gi f.kids)),vvw (int (aw l (31+i) % 2)),.own 44]),(40,.arr 122 ((eI a.length l (aw l 0 % 3).toNat).map jJ)),(41,.arr 89 ((dg a.length l (1+aw l 1 % 3).toNat).map bm)),(42,.arr 97 ((eD a.length l (gR a.length l) i).map bT)),(44,.arr 112 (((List.range k).map (gv a.length l (gR a.length l) i)).map dv))]⟩) ?_ ?_
 first
   | exact⟨_,dy (cU [gH a.length,(bU a.length)]),0,rfl,(if_pos ace).symm,ace,rfl⟩
   | exact⟨_,dy (cU [(bU a.length),fP (aw l (31+i) / 5 % (a.length:Int))]),0,rfl,by unfold kg;rw[if_neg ace,if_pos ace],ace,rfl⟩
   | exact⟨_,(dy (bU a.length)),0,rfl,by unfold kg;rw[if_neg ace,if_neg ace],ace,rfl⟩
 rintro zm zs ⟨f,k,rfl,Ao,Oy,rfl⟩
 have hbY:=hb (40+5*i+k)
 refine wS [3008] [0,1,4,5,9,11,12,14,15,16,137] [4,5,11,14,40,41,42,44] ?_ ?_<;>intro h9
 refine wA [9,0,1] [0,1,4,5,9,11,12,14,15,16,140,143,144] [4,5,11,14,40,41,42,44] ?_
 refine oP J (dF (a':=((40+5*i+k:Nat):Int)) (cH J J J ace) ace) ?_
 refine oC J J J J (eZ (i:=40+5*i+k) h64 hl ace) ?_
 refine wA [3] [0,1,4,5,9,11,12,14,15,16,17] [4,5,11,14,40,41,42,44] ?_
 refine bw (n:=181) 1 (fun p=>[20].getD p 0) (fun p=>[[(4,.box 29 [vvv,vvv,vvv,vvv]),(5,.box 29 [.own 40,.own 41,.own 42,vvv]),(11,.box 87 [vvw (int (bU a.length).kind),vvw (ints (bU a.length).syms),vvw (.sl (Rx.gi (bU a.length).kids))]),(14,.box 97 [vvw (aj ([110]++gQ ((i:Int)+1))),vvw (int f.kind),vvw (ints f.syms),vvw (.sl (Rx.gi f.kids)),vvw (int (aw l (31+i) % 2)),.own 44]),(40,.arr 122 ((eI a.length l (aw l 0 % 3).toNat).map jJ)),(41,.arr 89 ((dg a.length l (1+aw l 1 % 3).toNat).map bm)),(42,.arr 97 ((eD a.length l (gR a.length l) i).map bT)),(44,.arr 112 (((List.range k).map (gv a.length l (gR a.length l) i)).map dv))],[(4,.box 29 [vvv,vvv,vvv,vvv]),(5,.box 29 [.own 40,.own 41,.own 42,vvv]),(11,.box 87 [vvw (int (bU a.length).kind),vvw (ints (bU a.length).syms),vvw (.sl (Rx.gi (bU a.length).kids))]),(14,.box 97 [vvw (aj ([110]++gQ ((i:Int)+1))),vvw (int f.kind),vvw (ints f.syms),vvw (.sl (Rx.gi f.kids)),vvw (int (aw l (31+i) % 2)),.dead]),(40,.arr 122 ((eI a.length l (aw l 0 % 3).toNat).map jJ)),(41,.arr 89 ((dg a.length l (1+aw l 1 % 3).toNat).map bm)),(42,.arr 97 ((eD a.length l (gR a.length l) i).map bT)),(167,.arr 112 (((List.range k).map (gv a.length l (gR a.length l) i)).map dv++[dv (gv a.length l (gR a.length l) i k)]))]].getD p []) 21 [(0,some [0]),(1,some [0]),(2,none),(3,none),(4,none),(5,none),(6,none),(7,none),(8,none),(9,none),(10,none),(11,none),(12,none),(13,none),(14,some [0]),(15,none),(16,none),(17,some [0]),(18,none),(19,none)] [(147,.pbox 14 5),(148,.own 44),(149,vvw (int k)),(150,vvw (int ((k:Int)+1))),(151,vvw (aj (gQ ((k:Int)+1)))),(152,vvw (aj ([99]++gQ ((k:Int)+1)))),(153,vvw (ah a)),(154,vvw (int (aw l (40+5*i+k)))),(155,vvw (int (aw l (40+5*i+k) % 2))),(156,vvw (ints (fG a.length (aw l (40+5*i+k) % 2) 1))),(157,vvw (ah a)),(158,vvw (int (aw l (40+5*i+k)))),(159,vvw (int (aw l (40+5*i+k) / 2))),(160,vvw (ints (fG a.length (aw l (40+5*i+k) / 2) 2))),(161,.hid Dc [.ow 40,.ow 41,.ow 42,.pl (.sc (.slice none 0 0))]),(162,vvw (int (aw l (40+5*i+k)))),(163,vvw (int (aw l (40+5*i+k) / 9))),(164,vvw (strs (ry (gR a.length l) (aw l (40+5*i+k) / 9)))),(165,vvw (dv (gv a.length l (gR a.length l) i k))),(166,vvw (.sl [dv (gv a.length l (gR a.length l) i k)])),(167,.own 167),(0,vvw (ah a)),(1,vvw (ints l)),(4,.pbox 4 0),(5,.pbox 5 0),(9,vvw (int (1+aw l 30 % 3))),(11,.pbox 11 0),(12,vvw (int i)),(14,.pbox 14 0),(15,vvw (int (2+aw l (31+i) / 7 % 3))),(16,vvw (int k)),(17,vvw (int (aw l (40+5*i+k))))] mixed acf acf acf acf acf ?_ (fun t d h=>h) J ?_ ?_ ?_
 · rfl
 · exact
     ai (ai ((aK J uz J J)) (trivial)) (
     ai (ai ((ae J JE J J J)) (trivial)) (
     ai (fun _=>(af J J)) (
     ai (fun _=>(cH J J J ace)) (
     ai (fun _=>(bG J J J J (jI (n:=(k:Int)+1) ace) aa)) (
     ai (fun _=>(jz J J J (by have:=nS ((k:Int)+1);simp only[Z2,Z9];omega))) (
     ai (fun _=>(af J J)) (
     ai (fun _=>(af J J)) (
     ai (fun _=>(jA J J J ace)) (
     ai (fun _=>(bC J J J ((aq.weaken (cW (n:=aw l (40+5*i+k) % 2) (most:=1) ace ace ace))) aa)) (
     ai (fun _=>(af J J)) (
     ai (fun _=>(af J J)) (
     ai (fun _=>(fw J J J ace)) (
     ai (fun _=>(bC J J J ((aq.weaken (cW (n:=aw l (40+5*i+k) / 2) (most:=2) ace ace ace))) aa)) (
     ai (ai ((kF J pS l8 J J J J)) (trivial)) (
     ai (fun _=>(af J J)) (
     ai (fun _=>(fw J J J ace)) (
     ai (ai ((kG J J J J J (aq.weaken (nU (g:=(⟨eI a.length l (aw l 0 % 3).toNat,gR a.length l,eD a.length l (gR a.length l) i,[]⟩:aI)) (n:=aw l (40+5*i+k) / 9) (by show(dg _ _ _).length≤_;omega) ace)) aa)) (trivial)) (
     ai (fun _=>(aF J xZ xY J J J)) (
     ai (fun _=>(bY J Tryz.underlying95 vn J J J J aa)) (
     trivial))))))))))))))))))))
 · exact ai (fun X fl dO dh=>db (T:=95) (t:=167) (u:=148) (id:=44) (y:=.tmp 166) J J J fl Tryz.underlying95 vn ((dh 148 acg).trans J) J (cZ (jR ((dh 166 acg).trans J)) (cw (by rfl))) (by simp only[Z0,aai,Z2,Z9];omega) (by simp only[Z0,aai,Z2,Z9];omega) J dO J J J aa) (trivial)
 refine bO (n:=2) acf ?_
 refine xe 21 ?_
 refine aH (i:=22) acf J J (aU J J J PR J J J J J aa) ?_
 refine bg acf ?_
 refine jl [2] [0,1,4,5,9,11,12,14,15,16] [4,5,11,14,40,41,42,167] ?_
 refine ao.imp (jG 14 5 44 aa J J J J J J J J J) ?_
 refine gS [2,9002] [0,1,4,5,9,11,12,14,15,16] [4,5,11,14,40,41,42,44] ?_;rotate_left
 refine wA [6] [0,1,4,5,9,11,12,14] [4,5,11,14,40,41,42,44] ?_
 refine ao.imp (hJ 14 5 aa J J J J) ?_
 refine Cw [4,5000] ?_
 refine oS J (step_append J J J J Tryz.underlying26 PT J J aa (cZ J (cw (by rfl))) (by unfold eD;simp only[Z0,aai,Z2,Z9];omega) (by unfold eD;simp only[Z0,aai,Z2,Z9];omega)) J ?_
 refine wA [7,9002] [0,1,4,5,9,11,12] [4,5,11,40,41,42] ?_;rotate_left
 refine wA [6,0,0,5] [0,1,4,5,9,11,12,14,15] [4,5,11,14,40,41,42] ?_
 refine bL 14 5 44 112 97 aa J J J J ?_
 refine gS [5] [0,1,4,5,9,11,12,14,15,16] [4,5,11,14,40,41,42,44] ?_
 refine lp (fun zm zs=>∃(f:Rx)(k:Nat),zm=4-k∧(f=kg a.length (aw l (31+i)))∧((k:Int)≤2+aw l (31+i) / 7 % 3)∧zs=⟨181,[(0,vvw (ah a)),(1,vvw (ints l)),(4,.pbox 4 0),(5,.pbox 5 0),(9,vvw (int (1+aw l 30 % 3))),(11,.pbox 11 0),(12,vvw (int i)),(14,.pbox 14 0),(15,vvw (int (2+aw l (31+i) / 7 % 3))),(16,vvw (int k))],[(4,.box 29 [vvv,vvv,vvv,vvv]),(5,.box 29 [.own 40,.own 41,.own 42,vvv]),(11,.box 87 [vvw (int (bU a.length).kind),vvw (ints (bU a.length).syms),vvw (.sl (Rx.gi (bU a.length).kids))]),(14,.box 97 [vvw (aj ([110]++gQ ((i:Int)+1))),vvw (int f.kind),vvw (ints f.syms),vvw (.sl (Rx.gi f.kids)),vvw (int (aw l (31+i) % 2)),.own 44]),(40,.arr 122 ((eI a.length l (aw l 0 % 3).toNat).map jJ)),(41,.arr 89 ((dg a.length l (1+aw l 1 % 3).toNat).map bm)),(42,.arr 97 ((eD a.length l (gR a.length l) i).map bT)),(44,.arr 112 (((List.range k).map (gv a.length l (gR a.length l) i)).map dv))]⟩) ?_ ?_
 first
   | exact⟨_,dy (cU [gH a.length,(bU a.length)]),0,rfl,(if_pos ace).symm,ace,rfl⟩
   | exact⟨_,dy (cU [(bU a.length),fP (aw l (31+i) / 5 % (a.length:Int))]),0,rfl,by unfold kg;rw[if_neg ace,if_pos ace],ace,rfl⟩
   | exact⟨_,(dy (bU a.length)),0,rfl,by unfold kg;rw[if_neg ace,if_neg ace],ace,rfl⟩
 rintro zm zs ⟨f,k,rfl,Ao,Oy,rfl⟩
 have hbY:=hb (40+5*i+k)
 refine wS [3008] [0,1,4,5,9,11,12,14,15,16,137] [4,5,11,14,40,41,42,44] ?_ ?_<;>intro h10
 refine wA [9,0,1] [0,1,4,5,9,11,12,14,15,16,140,143,144] [4,5,11,14,40,41,42,44] ?_
 refine oP J (dF (a':=((40+5*i+k:Nat):Int)) (cH J J J ace) ace) ?_
 refine oC J J J J (eZ (i:=40+5*i+k) h64 hl ace) ?_
 refine wA [3] [0,1,4,5,9,11,12,14,15,16,17] [4,5,11,14,40,41,42,44] ?_
 refine bw (n:=181) 1 (fun p=>[20].getD p 0) (fun p=>[[(4,.box 29 [vvv,vvv,vvv,vvv]),(5,.box 29 [.own 40,.own 41,.own 42,vvv]),(11,.box 87 [vvw (int (bU a.length).kind),vvw (ints (bU a.length).syms),vvw (.sl (Rx.gi (bU a.length).kids))]),(14,.box 97 [vvw (aj ([110]++gQ ((i:Int)+1))),vvw (int f.kind),vvw (ints f.syms),vvw (.sl (Rx.gi f.kids)),vvw (int (aw l (31+i) % 2)),.own 44]),(40,.arr 122 ((eI a.length l (aw l 0 % 3).toNat).map jJ)),(41,.arr 89 ((dg a.length l (1+aw l 1 % 3).toNat).map bm)),(42,.arr 97 ((eD a.length l (gR a.length l) i).map bT)),(44,.arr 112 (((List.range k).map (gv a.length l (gR a.length l) i)).map dv))],[(4,.box 29 [vvv,vvv,vvv,vvv]),(5,.box 29 [.own 40,.own 41,.own 42,vvv]),(11,.box 87 [vvw (int (bU a.length).kind),vvw (ints (bU a.length).syms),vvw (.sl (Rx.gi (bU a.length).kids))]),(14,.box 97 [vvw (aj ([110]++gQ ((i:Int)+1))),vvw (int f.kind),vvw (ints f.syms),vvw (.sl (Rx.gi f.kids)),vvw (int (aw l (31+i) % 2)),.dead]),(40,.arr 122 ((eI a.length l (aw l 0 % 3).toNat).map jJ)),(41,.arr 89 ((dg a.length l (1+aw l 1 % 3).toNat).map bm)),(42,.arr 97 ((eD a.length l (gR a.length l) i).map bT)),(167,.arr 112 (((List.range k).map (gv a.length l (gR a.length l) i)).map dv++[dv (gv a.length l (gR a.length l) i k)]))]].getD p []) 21 [(0,some [0]),(1,some [0]),(2,none),(3,none),(4,none),(5,none),(6,none),(7,none),(8,none),(9,none),(10,none),(11,none),(12,none),(13,none),(14,some [0]),(15,none),(16,none),(17,some [0]),(18,none),(19,none)] [(147,.pbox 14 5),(148,.own 44),(149,vvw (int k)),(150,vvw (int ((k:Int)+1))),(151,vvw (aj (gQ ((k:Int)+1)))),(152,vvw (aj ([99]++gQ ((k:Int)+1)))),(153,vvw (ah a)),(154,vvw (int (aw l (40+5*i+k)))),(155,vvw (int (aw l (40+5*i+k) % 2))),(156,vvw (ints (fG a.length (aw l (40+5*i+k) % 2) 1))),(157,vvw (ah a)),(158,vvw (int (aw l (40+5*i+k)))),(159,vvw (int (aw l (40+5*i+k) / 2))),(160,vvw (ints (fG a.length (aw l (40+5*i+k) / 2) 2))),(161,.hid Dc [.ow 40,.ow 41,.ow 42,.pl (.sc (.slice none 0 0))]),(162,vvw (int (aw l (40+5*i+k)))),(163,vvw (int (aw l (40+5*i+k) / 9))),(164,vvw (strs (ry (gR a.length l) (aw l (40+5*i+k) / 9)))),(165,vvw (dv (gv a.length l (gR a.length l) i k))),(166,vvw (.sl [dv (gv a.length l (gR a.length l) i k)])),(167,.own 167),(0,vvw (ah a)),(1,vvw (ints l)),(4,.pbox 4 0),(5,.pbox 5 0),(9,vvw (int (1+aw l 30 % 3))),(11,.pbox 11 0),(12,vvw (int i)),(14,.pbox 14 0),(15,vvw (int (2+aw l (31+i) / 7 % 3))),(16,vvw (int k)),(17,vvw (int (aw l (40+5*i+k))))] mixed acf acf acf acf acf ?_ (fun t d h=>h) J ?_ ?_ ?_
 · rfl
 · exact
     ai (ai ((aK J uz J J)) (trivial)) (
     ai (ai ((ae J JE J J J)) (trivial)) (
     ai (fun _=>(af J J)) (
     ai (fun _=>(cH J J J ace)) (
     ai (fun _=>(bG J J J J (jI (n:=(k:Int)+1) ace) aa)) (
     ai (fun _=>(jz J J J (by have:=nS ((k:Int)+1);simp only[Z2,Z9];omega))) (
     ai (fun _=>(af J J)) (
     ai (fun _=>(af J J)) (
     ai (fun _=>(jA J J J ace)) (
     ai (fun _=>(bC J J J ((aq.weaken (cW (n:=aw l (40+5*i+k) % 2) (most:=1) ace ace ace))) aa)) (
     ai (fun _=>(af J J)) (
     ai (fun _=>(af J J)) (
     ai (fun _=>(fw J J J ace)) (
     ai (fun _=>(bC J J J ((aq.weaken (cW (n:=aw l (40+5*i+k) / 2) (most:=2) ace ace ace))) aa)) (
     ai (ai ((kF J pS l8 J J J J)) (trivial)) (
     ai (fun _=>(af J J)) (
     ai (fun _=>(fw J J J ace)) (
     ai (ai ((kG J J J J J (aq.weaken (nU (g:=(⟨eI a.length l (aw l 0 % 3).toNat,gR a.length l,eD a.length l (gR a.length l) i,[]⟩:aI)) (n:=aw l (40+5*i+k) / 9) (by show(dg _ _ _).length≤_;omega) ace)) aa)) (trivial)) (
     ai (fun _=>(aF J xZ xY J J J)) (
     ai (fun _=>(bY J Tryz.underlying95 vn J J J J aa)) (
     trivial))))))))))))))))))))
 · exact ai (fun X fl dO dh=>db (T:=95) (t:=167) (u:=148) (id:=44) (y:=.tmp 166) J J J fl Tryz.underlying95 vn ((dh 148 acg).trans J) J (cZ (jR ((dh 166 acg).trans J)) (cw (by rfl))) (by simp only[Z0,aai,Z2,Z9];omega) (by simp only[Z0,aai,Z2,Z9];omega) J dO J J J aa) (trivial)
 refine bO (n:=2) acf ?_
 refine xe 21 ?_
 refine aH (i:=22) acf J J (aU J J J PR J J J J J aa) ?_
 refine bg acf ?_
 refine jl [2] [0,1,4,5,9,11,12,14,15,16] [4,5,11,14,40,41,42,167] ?_
 refine ao.imp (jG 14 5 44 aa J J J J J J J J J) ?_
 refine gS [2,9002] [0,1,4,5,9,11,12,14,15,16] [4,5,11,14,40,41,42,44] ?_;rotate_left
 refine wA [6] [0,1,4,5,9,11,12,14] [4,5,11,14,40,41,42,44] ?_
 refine ao.imp (hJ 14 5 aa J J J J) ?_
 refine Cw [4,5000] ?_
 refine oS J (step_append J J J J Tryz.underlying26 PT J J aa (cZ J (cw (by rfl))) (by unfold eD;simp only[Z0,aai,Z2,Z9];omega) (by unfold eD;simp only[Z0,aai,Z2,Z9];omega)) J ?_
 refine wA [7,9002] [0,1,4,5,9,11,12] [4,5,11,40,41,42] ?_;rotate_left
 refine wS [7,3003] [0,1,4,5,9,11,12,13,14,123] [4,5,11,14,40,41,42] ?_ ?_<;>intro h11
 refine wA [2001,1] [0,1,4,5,9,11,12,13,14,124] [4,5,11,14,40,41,42] ?_
 refine oE J J J J J J (qe ace) ?_
 refine wZ [6001,5000] ?_
 refine oF J J J J J J J (qJ (l:=[gH a.length,(bU a.length)]) (by rw[qM];omega)) ?_
 refine oF J J J J J J J (gg (r:=cU [gH a.length,(bU a.length)]) (by have:=qd (gH a.length) (bU a.length);omega)) ?_
 refine wA [1] [0,1,4,5,9,11,12,13,14,129,130] [4,5,11,14,40,41,42] ?_
 refine c7 acf ?_
 refine ea J (aV J J J bX J J J J acg J J aa) ?_
 refine fZ ?_
 refine jl [4,0,0,5] [0,1,4,5,9,11,12,14,15] [4,5,11,14,40,41,42] ?_
 refine bL 14 5 44 112 97 aa J J J J ?_
 refine gS [5] [0,1,4,5,9,11,12,14,15,16] [4,5,11,14,40,41,42,44] ?_
 refine lp (fun zm zs=>∃(f:Rx)(k:Nat),zm=4-k∧(f=kg a.length (aw l (31+i)))∧((k:Int)≤2+aw l (31+i) / 7 % 3)∧zs=⟨181,[(0,vvw (ah a)),(1,vvw (ints l)),(4,.pbox 4 0),(5,.pbox 5 0),(9,vvw (int (1+aw l 30 % 3))),(11,.pbox 11 0),(12,vvw (int i)),(14,.pbox 14 0),(15,vvw (int (2+aw l (31+i) / 7 % 3))),(16,vvw (int k))],[(4,.box 29 [vvv,vvv,vvv,vvv]),(5,.box 29 [.own 40,.own 41,.own 42,vvv]),(11,.box 87 [vvw (int (bU a.length).kind),vvw (ints (bU a.length).syms),vvw (.sl (Rx.gi (bU a.length).kids))]),(14,.box 97 [vvw (aj ([110]++gQ ((i:Int)+1))),vvw (int f.kind),vvw (ints f.syms),vvw (.sl (Rx.gi f.kids)),vvw (int (aw l (31+i) % 2)),.own 44]),(40,.arr 122 ((eI a.length l (aw l 0 % 3).toNat).map jJ)),(41,.arr 89 ((dg a.length l (1+aw l 1 % 3).toNat).map bm)),(42,.arr 97 ((eD a.length l (gR a.length l) i).map bT)),(44,.arr 112 (((List.range k).map (gv a.length l (gR a.length l) i)).map dv))]⟩) ?_ ?_
 first
   | exact⟨_,dy (cU [gH a.length,(bU a.length)]),0,rfl,(if_pos ace).symm,ace,rfl⟩
   | exact⟨_,dy (cU [(bU a.length),fP (aw l (31+i) / 5 % (a.length:Int))]),0,rfl,by unfold kg;rw[if_neg ace,if_pos ace],ace,rfl⟩
   | exact⟨_,(dy (bU a.length)),0,rfl,by unfold kg;rw[if_neg ace,if_neg ace],ace,rfl⟩
 rintro zm zs ⟨f,k,rfl,Ao,Oy,rfl⟩
 have hbY:=hb (40+5*i+k)
 refine wS [3008] [0,1,4,5,9,11,12,14,15,16,137] [4,5,11,14,40,41,42,44] ?_ ?_<;>intro h12
 refine wA [9,0,1] [0,1,4,5,9,11,12,14,15,16,140,143,144] [4,5,11,14,40,41,42,44] ?_
 refine oP J (dF (a':=((40+5*i+k:Nat):Int)) (cH J J J ace) ace) ?_
 refine oC J J J J (eZ (i:=40+5*i+k) h64 hl ace) ?_
 refine wA [3] [0,1,4,5,9,11,12,14,15,16,17] [4,5,11,14,40,41,42,44] ?_
 refine bw (n:=181) 1 (fun p=>[20].getD p 0) (fun p=>[[(4,.box 29 [vvv,vvv,vvv,vvv]),(5,.box 29 [.own 40,.own 41,.own 42,vvv]),(11,.box 87 [vvw (int (bU a.length).kind),vvw (ints (bU a.length).syms),vvw (.sl (Rx.gi (bU a.length).kids))]),(14,.box 97 [vvw (aj ([110]++gQ ((i:Int)+1))),vvw (int f.kind),vvw (ints f.syms),vvw (.sl (Rx.gi f.kids)),vvw (int (aw l (31+i) % 2)),.own 44]),(40,.arr 122 ((eI a.length l (aw l 0 % 3).toNat).map jJ)),(41,.arr 89 ((dg a.length l (1+aw l 1 % 3).toNat).map bm)),(42,.arr 97 ((eD a.length l (gR a.length l) i).map bT)),(44,.arr 112 (((List.range k).map (gv a.length l (gR a.length l) i)).map dv))],[(4,.box 29 [vvv,vvv,vvv,vvv]),(5,.box 29 [.own 40,.own 41,.own 42,vvv]),(11,.box 87 [vvw (int (bU a.length).kind),vvw (ints (bU a.length).syms),vvw (.sl (Rx.gi (bU a.length).kids))]),(14,.box 97 [vvw (aj ([110]++gQ ((i:Int)+1))),vvw (int f.kind),vvw (ints f.syms),vvw (.sl (Rx.gi f.kids)),vvw (int (aw l (31+i) % 2)),.dead]),(40,.arr 122 ((eI a.length l (aw l 0 % 3).toNat).map jJ)),(41,.arr 89 ((dg a.length l (1+aw l 1 % 3).toNat).map bm)),(42,.arr 97 ((eD a.length l (gR a.length l) i).map bT)),(167,.arr 112 (((List.range k).map (gv a.length l (gR a.length l) i)).map dv++[dv (gv a.length l (gR a.length l) i k)]))]].getD p []) 21 [(0,some [0]),(1,some [0]),(2,none),(3,none),(4,none),(5,none),(6,none),(7,none),(8,none),(9,none),(10,none),(11,none),(12,none),(13,none),(14,some [0]),(15,none),(16,none),(17,some [0]),(18,none),(19,none)] [(147,.pbox 14 5),(148,.own 44),(149,vvw (int k)),(150,vvw (int ((k:Int)+1))),(151,vvw (aj (gQ ((k:Int)+1)))),(152,vvw (aj ([99]++gQ ((k:Int)+1)))),(153,vvw (ah a)),(154,vvw (int (aw l (40+5*i+k)))),(155,vvw (int (aw l (40+5*i+k) % 2))),(156,vvw (ints (fG a.length (aw l (40+5*i+k) % 2) 1))),(157,vvw (ah a)),(158,vvw (int (aw l (40+5*i+k)))),(159,vvw (int (aw l (40+5*i+k) / 2))),(160,vvw (ints (fG a.length (aw l (40+5*i+k) / 2) 2))),(161,.hid Dc [.ow 40,.ow 41,.ow 42,.pl (.sc (.slice none 0 0))]),(162,vvw (int (aw l (40+5*i+k)))),(163,vvw (int (aw l (40+5*i+k) / 9))),(164,vvw (strs (ry (gR a.length l) (aw l (40+5*i+k) / 9)))),(165,vvw (dv (gv a.length l (gR a.length l) i k))),(166,vvw (.sl [dv (gv a.length l (gR a.length l) i k)])),(167,.own 167),(0,vvw (ah a)),(1,vvw (ints l)),(4,.pbox 4 0),(5,.pbox 5 0),(9,vvw (int (1+aw l 30 % 3))),(11,.pbox 11 0),(12,vvw (int i)),(14,.pbox 14 0),(15,vvw (int (2+aw l (31+i) / 7 % 3))),(16,vvw (int k)),(17,vvw (int (aw l (40+5*i+k))))] mixed acf acf acf acf acf ?_ (fun t d h=>h) J ?_ ?_ ?_
 · rfl
 · exact
     ai (ai ((aK J uz J J)) (trivial)) (
     ai (ai ((ae J JE J J J)) (trivial)) (
     ai (fun _=>(af J J)) (
     ai (fun _=>(cH J J J ace)) (
     ai (fun _=>(bG J J J J (jI (n:=(k:Int)+1) ace) aa)) (
     ai (fun _=>(jz J J J (by have:=nS ((k:Int)+1);simp only[Z2,Z9];omega))) (
     ai (fun _=>(af J J)) (
     ai (fun _=>(af J J)) (
     ai (fun _=>(jA J J J ace)) (
     ai (fun _=>(bC J J J ((aq.weaken (cW (n:=aw l (40+5*i+k) % 2) (most:=1) ace ace ace))) aa)) (
     ai (fun _=>(af J J)) (
     ai (fun _=>(af J J)) (
     ai (fun _=>(fw J J J ace)) (
     ai (fun _=>(bC J J J ((aq.weaken (cW (n:=aw l (40+5*i+k) / 2) (most:=2) ace ace ace))) aa)) (
     ai (ai ((kF J pS l8 J J J J)) (trivial)) (
     ai (fun _=>(af J J)) (
     ai (fun _=>(fw J J J ace)) (
     ai (ai ((kG J J J J J (aq.weaken (nU (g:=(⟨eI a.length l (aw l 0 % 3).toNat,gR a.length l,eD a.length l (gR a.length l) i,[]⟩:aI)) (n:=aw l (40+5*i+k) / 9) (by show(dg _ _ _).length≤_;omega) ace)) aa)) (trivial)) (
     ai (fun _=>(aF J xZ xY J J J)) (
     ai (fun _=>(bY J Tryz.underlying95 vn J J J J aa)) (
     trivial))))))))))))))))))))
 · exact ai (fun X fl dO dh=>db (T:=95) (t:=167) (u:=148) (id:=44) (y:=.tmp 166) J J J fl Tryz.underlying95 vn ((dh 148 acg).trans J) J (cZ (jR ((dh 166 acg).trans J)) (cw (by rfl))) (by simp only[Z0,aai,Z2,Z9];omega) (by simp only[Z0,aai,Z2,Z9];omega) J dO J J J aa) (trivial)
 refine bO (n:=2) acf ?_
 refine xe 21 ?_
 refine aH (i:=22) acf J J (aU J J J PR J J J J J aa) ?_
 refine bg acf ?_
 refine jl [2] [0,1,4,5,9,11,12,14,15,16] [4,5,11,14,40,41,42,167] ?_
 refine ao.imp (jG 14 5 44 aa J J J J J J J J J) ?_
 refine gS [2,9002] [0,1,4,5,9,11,12,14,15,16] [4,5,11,14,40,41,42,44] ?_;rotate_left
 refine wA [6] [0,1,4,5,9,11,12,14] [4,5,11,14,40,41,42,44] ?_
 refine ao.imp (hJ 14 5 aa J J J J) ?_
 refine Cw [4,5000] ?_
 refine oS J (step_append J J J J Tryz.underlying26 PT J J aa (cZ J (cw (by rfl))) (by unfold eD;simp only[Z0,aai,Z2,Z9];omega) (by unfold eD;simp only[Z0,aai,Z2,Z9];omega)) J ?_
 refine wA [7,9002] [0,1,4,5,9,11,12] [4,5,11,40,41,42] ?_;rotate_left
 refine wA [6,0,0,5] [0,1,4,5,9,11,12,14,15] [4,5,11,14,40,41,42] ?_
 refine bL 14 5 44 112 97 aa J J J J ?_
 refine gS [5] [0,1,4,5,9,11,12,14,15,16] [4,5,11,14,40,41,42,44] ?_
 refine lp (fun zm zs=>∃(f:Rx)(k:Nat),zm=4-k∧(f=kg a.length (aw l (31+i)))∧((k:Int)≤2+aw l (31+i) / 7 % 3)∧zs=⟨181,[(0,vvw (ah a)),(1,vvw (ints l)),(4,.pbox 4 0),(5,.pbox 5 0),(9,vvw (int (1+aw l 30 % 3))),(11,.pbox 11 0),(12,vvw (int i)),(14,.pbox 14 0),(15,vvw (int (2+aw l (31+i) / 7 % 3))),(16,vvw (int k))],[(4,.box 29 [vvv,vvv,vvv,vvv]),(5,.box 29 [.own 40,.own 41,.own 42,vvv]),(11,.box 87 [vvw (int (bU a.length).kind),vvw (ints (bU a.length).syms),vvw (.sl (Rx.gi (bU a.length).kids))]),(14,.box 97 [vvw (aj ([110]++gQ ((i:Int)+1))),vvw (int f.kind),vvw (ints f.syms),vvw (.sl (Rx.gi f.kids)),vvw (int (aw l (31+i) % 2)),.own 44]),(40,.arr 122 ((eI a.length l (aw l 0 % 3).toNat).map jJ)),(41,.arr 89 ((dg a.length l (1+aw l 1 % 3).toNat).map bm)),(42,.arr 97 ((eD a.length l (gR a.length l) i).map bT)),(44,.arr 112 (((List.range k).map (gv a.length l (gR a.length l) i)).map dv))]⟩) ?_ ?_
 first
   | exact⟨_,dy (cU [gH a.length,(bU a.length)]),0,rfl,(if_pos ace).symm,ace,rfl⟩
   | exact⟨_,dy (cU [(bU a.length),fP (aw l (31+i) / 5 % (a.length:Int))]),0,rfl,by unfold kg;rw[if_neg ace,if_pos ace],ace,rfl⟩
   | exact⟨_,(dy (bU a.length)),0,rfl,by unfold kg;rw[if_neg ace,if_neg ace],ace,rfl⟩
 rintro zm zs ⟨f,k,rfl,Ao,Oy,rfl⟩
 have hbY:=hb (40+5*i+k)
 refine wS [3008] [0,1,4,5,9,11,12,14,15,16,137] [4,5,11,14,40,41,42,44] ?_ ?_<;>intro h13
 refine wA [9,0,1] [0,1,4,5,9,11,12,14,15,16,140,143,144] [4,5,11,14,40,41,42,44] ?_
 refine oP J (dF (a':=((40+5*i+k:Nat):Int)) (cH J J J ace) ace) ?_
 refine oC J J J J (eZ (i:=40+5*i+k) h64 hl ace) ?_
 refine wA [3] [0,1,4,5,9,11,12,14,15,16,17] [4,5,11,14,40,41,42,44] ?_
 refine bw (n:=181) 1 (fun p=>[20].getD p 0) (fun p=>[[(4,.box 29 [vvv,vvv,vvv,vvv]),(5,.box 29 [.own 40,.own 41,.own 42,vvv]),(11,.box 87 [vvw (int (bU a.length).kind),vvw (ints (bU a.length).syms),vvw (.sl (Rx.gi (bU a.length).kids))]),(14,.box 97 [vvw (aj ([110]++gQ ((i:Int)+1))),vvw (int f.kind),vvw (ints f.syms),vvw (.sl (Rx.gi f.kids)),vvw (int (aw l (31+i) % 2)),.own 44]),(40,.arr 122 ((eI a.length l (aw l 0 % 3).toNat).map jJ)),(41,.arr 89 ((dg a.length l (1+aw l 1 % 3).toNat).map bm)),(42,.arr 97 ((eD a.length l (gR a.length l) i).map bT)),(44,.arr 112 (((List.range k).map (gv a.length l (gR a.length l) i)).map dv))],[(4,.box 29 [vvv,vvv,vvv,vvv]),(5,.box 29 [.own 40,.own 41,.own 42,vvv]),(11,.box 87 [vvw (int (bU a.length).kind),vvw (ints (bU a.length).syms),vvw (.sl (Rx.gi (bU a.length).kids))]),(14,.box 97 [vvw (aj ([110]++gQ ((i:Int)+1))),vvw (int f.kind),vvw (ints f.syms),vvw (.sl (Rx.gi f.kids)),vvw (int (aw l (31+i) % 2)),.dead]),(40,.arr 122 ((eI a.length l (aw l 0 % 3).toNat).map jJ)),(41,.arr 89 ((dg a.length l (1+aw l 1 % 3).toNat).map bm)),(42,.arr 97 ((eD a.length l (gR a.length l) i).map bT)),(167,.arr 112 (((List.range k).map (gv a.length l (gR a.length l) i)).map dv++[dv (gv a.length l (gR a.length l) i k)]))]].getD p []) 21 [(0,some [0]),(1,some [0]),(2,none),(3,none),(4,none),(5,none),(6,none),(7,none),(8,none),(9,none),(10,none),(11,none),(12,none),(13,none),(14,some [0]),(15,none),(16,none),(17,some [0]),(18,none),(19,none)] [(147,.pbox 14 5),(148,.own 44),(149,vvw (int k)),(150,vvw (int ((k:Int)+1))),(151,vvw (aj (gQ ((k:Int)+1)))),(152,vvw (aj ([99]++gQ ((k:Int)+1)))),(153,vvw (ah a)),(154,vvw (int (aw l (40+5*i+k)))),(155,vvw (int (aw l (40+5*i+k) % 2))),(156,vvw (ints (fG a.length (aw l (40+5*i+k) % 2) 1))),(157,vvw (ah a)),(158,vvw (int (aw l (40+5*i+k)))),(159,vvw (int (aw l (40+5*i+k) / 2))),(160,vvw (ints (fG a.length (aw l (40+5*i+k) / 2) 2))),(161,.hid Dc [.ow 40,.ow 41,.ow 42,.pl (.sc (.slice none 0 0))]),(162,vvw (int (aw l (40+5*i+k)))),(163,vvw (int (aw l (40+5*i+k) / 9))),(164,vvw (strs (ry (gR a.length l) (aw l (40+5*i+k) / 9)))),(165,vvw (dv (gv a.length l (gR a.length l) i k))),(166,vvw (.sl [dv (gv a.length l (gR a.length l) i k)])),(167,.own 167),(0,vvw (ah a)),(1,vvw (ints l)),(4,.pbox 4 0),(5,.pbox 5 0),(9,vvw (int (1+aw l 30 % 3))),(11,.pbox 11 0),(12,vvw (int i)),(14,.pbox 14 0),(15,vvw (int (2+aw l (31+i) / 7 % 3))),(16,vvw (int k)),(17,vvw (int (aw l (40+5*i+k))))] mixed acf acf acf acf acf ?_ (fun t d h=>h) J ?_ ?_ ?_
 · rfl
 · exact
     ai (ai ((aK J uz J J)) (trivial)) (
     ai (ai ((ae J JE J J J)) (trivial)) (
     ai (fun _=>(af J J)) (
     ai (fun _=>(cH J J J ace)) (
     ai (fun _=>(bG J J J J (jI (n:=(k:Int)+1) ace) aa)) (
     ai (fun _=>(jz J J J (by have:=nS ((k:Int)+1);simp only[Z2,Z9];omega))) (
     ai (fun _=>(af J J)) (
     ai (fun _=>(af J J)) (
     ai (fun _=>(jA J J J ace)) (
     ai (fun _=>(bC J J J ((aq.weaken (cW (n:=aw l (40+5*i+k) % 2) (most:=1) ace ace ace))) aa)) (
     ai (fun _=>(af J J)) (
     ai (fun _=>(af J J)) (
     ai (fun _=>(fw J J J ace)) (
     ai (fun _=>(bC J J J ((aq.weaken (cW (n:=aw l (40+5*i+k) / 2) (most:=2) ace ace ace))) aa)) (
     ai (ai ((kF J pS l8 J J J J)) (trivial)) (
     ai (fun _=>(af J J)) (
     ai (fun _=>(fw J J J ace)) (
     ai (ai ((kG J J J J J (aq.weaken (nU (g:=(⟨eI a.length l (aw l 0 % 3).toNat,gR a.length l,eD a.length l (gR a.length l) i,[]⟩:aI)) (n:=aw l (40+5*i+k) / 9) (by show(dg _ _ _).length≤_;omega) ace)) aa)) (trivial)) (
     ai (fun _=>(aF J xZ xY J J J)) (
     ai (fun _=>(bY J Tryz.underlying95 vn J J J J aa)) (
     trivial))))))))))))))))))))
 · exact ai (fun X fl dO dh=>db (T:=95) (t:=167) (u:=148) (id:=44) (y:=.tmp 166) J J J fl Tryz.underlying95 vn ((dh 148 acg).trans J) J (cZ (jR ((dh 166 acg).trans J)) (cw (by rfl))) (by simp only[Z0,aai,Z2,Z9];omega) (by simp only[Z0,aai,Z2,Z9];omega) J dO J J J aa) (trivial)
 refine bO (n:=2) acf ?_
 refine xe 21 ?_
 refine aH (i:=22) acf J J (aU J J J PR J J J J J aa) ?_
 refine bg acf ?_
 refine jl [2] [0,1,4,5,9,11,12,14,15,16] [4,5,11,14,40,41,42,167] ?_
 refine ao.imp (jG 14 5 44 aa J J J J J J J J J) ?_
 refine gS [2,9002] [0,1,4,5,9,11,12,14,15,16] [4,5,11,14,40,41,42,44] ?_;rotate_left
 refine wA [6] [0,1,4,5,9,11,12,14] [4,5,11,14,40,41,42,44] ?_
 refine ao.imp (hJ 14 5 aa J J J J) ?_
 refine Cw [4,5000] ?_
 refine oS J (step_append J J J J Tryz.underlying26 PT J J aa (cZ J (cw (by rfl))) (by unfold eD;simp only[Z0,aai,Z2,Z9];omega) (by unfold eD;simp only[Z0,aai,Z2,Z9];omega)) J ?_
 refine wA [7,9002] [0,1,4,5,9,11,12] [4,5,11,40,41,42] ?_;rotate_left
 refine wA [7] [1,4,5] [4,5,40,41,42] ?_
 refine ao.imp (hJ 5 0 aa J J J J) ?_
 refine ao.imp (hJ 5 1 aa J J J J) ?_
 refine ao.imp (hJ 5 2 aa J J J J) ?_
 refine gS [2000,2] [4,5,175,176] [4,5] ?_
 refine oE J J J J J J (eZ (i:=60) h64 hl ace) ?_
 refine oD J J J (bC J J J ((aq.weaken (nU (g:=(⟨eI a.length l (aw l 0 % 3).toNat,gR a.length l,eD a.length l (gR a.length l) i,[]⟩:aI)) (n:=aw l 60) (by show(dg _ _ _).length≤_;omega) (by have:=hb 60;omega)))) aa) ?_
 refine wA [1] [4,5,178,179] [4,5] ?_
 refine c7 acf ?_
 refine ea J (aV J J J UB J J J J acg J J aa) ?_
 refine fZ ?_
 refine Cx [8] ?_
 refine aA J ?_
 obtain rfl:i=(1+aw l 30 % 3).toNat:=ace
 rfl
 all_goals first
  | (
    exact⟨_,⟨k+1,rfl,ace,by first|(rw[EY (.inl ace),Z8];rfl)|(rw[EY (.inr ach),Z8];rfl)|(rw[QK (fun q=>q.elim (fun q=>absurd (congrArg (fun n:Nat=>(n:Int)) q) ach) (fun q=>absurd q ach))];rfl)⟩,ace⟩;done)
  | (
    exact⟨_,⟨f,k+1,rfl,Ao,ace,by rw[aaP,Z8,Z8];rfl⟩,ace⟩;done)
  | (
    have hk:k=(2+aw l (31+i) / 7 % 3).toNat:=ace
    subst hk
    subst Ao
    exact⟨_,⟨i+1,rfl,ace,by unfold eD;rw[aaP,Z8,Z8];rfl⟩,ace⟩;done)
end Go.Proofs.YtlapahnodhmcpaaGreat
