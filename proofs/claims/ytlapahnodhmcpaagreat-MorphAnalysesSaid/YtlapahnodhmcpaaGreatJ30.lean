/-
  Part of the proof.
-/
import Derived.Test.YtlapahnodhmcpaaGreatJ0
import Derived.Test.YtlapahnodhmcpaaGreatJ16
import Derived.Test.YtlapahnodhmcpaaGreatJ25
import Derived.Test.YtlapahnodhmcpaaGreatJ29
import Derived.Test.YtlapahnodhmcpaaGreatJ12
set_option linter.unusedVariables false
set_option linter.unusedSectionVars false
set_option linter.unusedSimpArgs false
set_option maxRecDepth 100000
set_option maxHeartbeats 40000000
namespace Go.Proofs.YtlapahnodhmcpaaGreat
open Go.Am Go.Wb Go.Wc Go.Wf
theorem XU:Ba Tryz.prog 78 Tryz.f78.ntmps 4 97 6 5 (Tryz.f78.body.getD .skip):=⟨Tryz.f78,Tryz.func78,rfl,rfl,rfl,acf,Te,JF⟩
theorem El {g:aI}{n:List UInt8}(hl:g.classes.length≤1099511627776):aX Tryz.prog 78 [df g,aj n] (.p (.tup [bT ((fF g n).getD D6),bool (fF g n).isSome])):=by
 refine du XU (ZZ J) fun w0 M0 aa=>?_
 refine c6 [2,11] [1,2,4,6] [4] ?_
 refine lp (fun zm zs=>∃i:Nat,zm=g.classes.length-i∧(i≤g.classes.length)∧(∀j,j<i→decide ((g.classes.getD j default).name=n)=false)∧zs=⟨28,[(1,vvw (aj n)),(2,vvw (iF g)),(4,.pbox 4 0),(6,vvw (int i))],[(4,.box 97 [vvw (.sc (.string ⟨#[]⟩)),vvw (.sc (.int .i64 0)),vvv,vvv,vvw (.sc (.int .i64 0)),vvv])]⟩) ?_ ?_
 exact⟨_,0,rfl,Z5 _,fun j hj=>absurd hj ace,rfl⟩
 rintro zm zs ⟨i,rfl,aZ,au,rfl⟩
 refine wS [6,3003] [1,2,4,6,11] [4] ?_ ?_<;>intro h1
 refine wS [10,3,3002] [1,2,4,6,21] [4] ?_ ?_<;>intro h2
 refine wZ [6,11] ?_
 refine bA J J ?_;rotate_left
 refine wA [6,9002] [1,2,4,6] [4] ?_
 exact⟨_,⟨i+1,rfl,ace,b7 au (by simp_all),rfl⟩,ace⟩
 refine wA [8] [4] [4] ?_
 refine oP J (aC (aF J PU Ni J J J) J) ?_
 refine wZ [5] ?_
 refine bA J J ?_;rotate_left
 all_goals
  first|(rw[show fF g n=some (g.classes.getD i default) from pW ace au (by simp_all)];exact⟨rfl,rfl⟩)|(rw[show fF g n=none from nI (fun j hj=>au j ace)];exact⟨rfl,rfl⟩)
theorem VN:Ba Tryz.prog 113 Tryz.f113.ntmps 4 112 4 5 (Tryz.f113.body.getD .skip):=⟨Tryz.f113,Tryz.func113,rfl,rfl,rfl,acf,Rt,HL⟩
theorem Gv {c:iq}{n:List UInt8}(hl:c.cells.length≤1099511627776):aX Tryz.prog 113 [bT c,aj n] (.p (.tup [dv ((mQ c n).getD HU),bool (mQ c n).isSome])):=by
 refine du VN (ZZ J) fun w0 M0 aa=>?_
 refine c6 [2,11] [1,2,4,6] [4] ?_
 refine lp (fun zm zs=>∃i:Nat,zm=c.cells.length-i∧(i≤c.cells.length)∧(∀j,j<i→decide ((c.cells.getD j default).name=n)=false)∧zs=⟨28,[(1,vvw (aj n)),(2,vvw (BY c)),(4,.pbox 4 0),(6,vvw (int i))],[(4,.box 112 [vvw (.sc (.string ⟨#[]⟩)),vvv,vvv,vvv])]⟩) ?_ ?_
 exact⟨_,0,rfl,Z5 _,fun j hj=>absurd hj ace,rfl⟩
 rintro zm zs ⟨i,rfl,aZ,au,rfl⟩
 refine wS [6,3003] [1,2,4,6,11] [4] ?_ ?_<;>intro h1
 refine wS [10,3,3002] [1,2,4,6,21] [4] ?_ ?_<;>intro h2
 refine wZ [6,11] ?_
 refine bA J J ?_;rotate_left
 refine wA [6,9002] [1,2,4,6] [4] ?_
 exact⟨_,⟨i+1,rfl,ace,b7 au (by simp_all),rfl⟩,ace⟩
 refine wA [8] [4] [4] ?_
 refine oP J (aC (aF J xZ xY J J J) J) ?_
 refine wZ [5] ?_
 refine bA J J ?_;rotate_left
 all_goals
  first|(rw[show mQ c n=some (c.cells.getD i default) from pW ace au (by simp_all)];exact⟨rfl,rfl⟩)|(rw[show mQ c n=none from nI (fun j hj=>au j ace)];exact⟨rfl,rfl⟩)
theorem XV:Ba Tryz.prog 80 Tryz.f80.ntmps 4 97 6 5 (Tryz.f80.body.getD .skip):=⟨Tryz.f80,Tryz.func80,rfl,rfl,rfl,acf,Te,JF⟩
theorem ye {g:aI}{n:List UInt8}(hl:g.classes.length≤1099511627776):aX Tryz.prog 80 [df g,aj n] (.p (.tup [bT ((fF g n).getD D6),bool (fF g n).isSome])):=by
 refine du XV (ZZ J) fun w0 M0 aa=>?_
 refine c6 [2,9,4] [1,4,9,10,11] [4] ?_
 refine lp (fun zm zs=>∃i:Nat,zm=g.classes.length-i∧(i≤g.classes.length)∧(∀j,j<i→decide ((g.classes.getD j default).name=n)=false)∧zs=⟨22,[(1,vvw (aj n)),(4,.pbox 4 0),(9,vvw (.sl (g.classes.map bT))),(10,vvw (int g.classes.length)),(11,vvw (int i))],[(4,.box 97 [vvw (.sc (.string ⟨#[]⟩)),vvw (.sc (.int .i64 0)),vvv,vvv,vvw (.sc (.int .i64 0)),vvv])]⟩) ?_ ?_
 exact⟨_,0,rfl,Z5 _,fun j hj=>absurd hj ace,rfl⟩
 rintro zm zs ⟨i,rfl,aZ,au,rfl⟩
 refine wS [3006] [1,4,9,10,11,12] [4] ?_ ?_<;>intro h1
 refine wA [7,6] [1,4,7,9,10,11] [4,7] ?_
 refine aS 22 [(1,_),(4,_),(7,_),(9,_),(10,_),(11,_)] [(4,_)] aa J ⟨.inl J,.inl J,.inr ⟨_,_,rfl,rfl,rfl⟩,.inl J,.inl J,.inl J,trivial⟩ ⟨rfl,trivial⟩ ?_
 refine Ug [4,3002] [1,4,7,9,10,11,18] [4] ?_ ?_<;>intro h2
 refine wZ [14] ?_
 refine bA J J ?_;rotate_left
 refine wA [5,9002] [1,4,9,10,11] [4] ?_
 exact⟨_,⟨i+1,rfl,ace,b7 au (by simp_all),rfl⟩,ace⟩
 refine wA [8] [4] [4] ?_
 refine oP J (aC (aF J PU Ni J J J) J) ?_
 refine wZ [5] ?_
 refine bA J J ?_;rotate_left
 all_goals
  first|(rw[show fF g n=some (g.classes.getD i default) from pW ace au (by simp_all)];exact⟨rfl,rfl⟩)|(rw[show fF g n=none from nI (fun j hj=>au j ace)];exact⟨rfl,rfl⟩)
abbrev VO:=dU 4 Tryz.func195
theorem yf {l:List aG}{p:aG→Bool}{g:FuncId}{caps:List AV}(hl:l.length≤1099511627776)(hf:∀x∈l,aq Tryz.prog g ([bm x]++caps) (.p (bool (p x)))):aq Tryz.prog 195 [.sl (l.map bm),.clo g caps] (.p (int (eB p l))):=by
 refine cF VO fun w0 M0 aa=>?_
 refine c6 [9,4] [0,1,7,8] [] ?_
 refine lp (fun zm zs=>∃k:Nat,zm=l.length-k∧(k≤l.length)∧(∀j,j<k→p (l.getD j default)=false)∧zs=⟨19,[(0,vvz (.sl (l.map bm))),(1,vvz (.clo g caps)),(7,vvw (int l.length)),(8,vvw (int k))],[]⟩) ?_ ?_
 exact⟨_,0,rfl,Z5 _,fun j hj=>absurd hj ace,rfl⟩
 rintro zm zs ⟨k,rfl,aZ,au,rfl⟩
 refine wS [3006] [0,1,7,8,9] [] ?_ ?_<;>intro h1
 refine wA [16,1] [0,1,5,7,8,11,15] [] ?_
 refine oC J J J J (hf _ (ba ace)) ?_
 refine wS [3002] [0,1,5,7,8,16] [] ?_ ?_<;>intro h2
 refine wZ [8013] ?_
 rw[←nt (p:=p) (l:=l) (k:=k) ace au (by simp_all)]
 refine wA [5,9002] [0,1,7,8] [] ?_
 exact⟨_,⟨k+1,rfl,ace,b7 au (by simp_all),rfl⟩,ace⟩
 refine wZ [8012] ?_
 rw[←lD (p:=p) (l:=l) (fun j hj=>au j ace)]
abbrev VP:=dU 4 Tryz.func137
theorem Gw {l:List gL}{p:gL→Bool}{g:FuncId}{caps:List AV}(hl:l.length≤1099511627776)(hf:∀x∈l,aq Tryz.prog g ([dv x]++caps) (.p (bool (p x)))):aq Tryz.prog 137 [.sl (l.map dv),.clo g caps] (.p (int (eB p l))):=by
 refine cF VP fun w0 M0 aa=>?_
 refine c6 [9,4] [0,1,7,8] [] ?_
 refine lp (fun zm zs=>∃k:Nat,zm=l.length-k∧(k≤l.length)∧(∀j,j<k→p (l.getD j default)=false)∧zs=⟨19,[(0,vvz (.sl (l.map dv))),(1,vvz (.clo g caps)),(7,vvw (int l.length)),(8,vvw (int k))],[]⟩) ?_ ?_
 exact⟨_,0,rfl,Z5 _,fun j hj=>absurd hj ace,rfl⟩
 rintro zm zs ⟨k,rfl,aZ,au,rfl⟩
 refine wS [3006] [0,1,7,8,9] [] ?_ ?_<;>intro h1
 refine wA [16,1] [0,1,5,7,8,11,15] [] ?_
 refine oC J J J J (hf _ (ba ace)) ?_
 refine wS [3002] [0,1,5,7,8,16] [] ?_ ?_<;>intro h2
 refine wZ [8013] ?_
 rw[←nt (p:=p) (l:=l) (k:=k) ace au (by simp_all)]
 refine wA [5,9002] [0,1,7,8] [] ?_
 exact⟨_,⟨k+1,rfl,ace,b7 au (by simp_all),rfl⟩,ace⟩
 refine wZ [8012] ?_
 rw[←lD (p:=p) (l:=l) (fun j hj=>au j ace)]
abbrev VQ:=dU 3 Tryz.func196
theorem Em {r:aG}{n:List UInt8}:aq Tryz.prog 196 ([bm r]++[.pc [aj n] 0]) (.p (bool (decide (r.name=n)))):=by
 refine cF VQ fun w0 M0 aa=>?_
 refine zM [2,8,8004] ?_
 rfl
abbrev VR:=dU 3 Tryz.func138
theorem Gx {c:gL}{n:List UInt8}:aq Tryz.prog 138 ([dv c]++[.pc [aj n] 0]) (.p (bool (decide (c.name=n)))):=by
 refine cF VR fun w0 M0 aa=>?_
 refine zM [2,8,8004] ?_
 rfl
theorem VS:G7 Tryz.prog 139 Tryz.f139.ntmps 4 5 (Tryz.f139.body.getD .skip):=⟨Tryz.f139,Tryz.func139,rfl,rfl,rfl,acf⟩
theorem yg {g:aI}{l:List (List UInt8)}(hg:g.rules.length≤1099511627776)(hl:l.length≤1048576):aX Tryz.prog 139 [df g,strs l] (.p (.tup [.sl ((bq g l).map bm),bool (mR g l)])):=by
 refine im VS (ZZ J) fun w0 M0 aa=>?_
 refine c6 [2,1006,6,4] [2,6,10,11,12] [6] ?_
 refine lp (fun zm zs=>∃i:Nat,zm=l.length-i∧(i≤l.length)∧(∀j,j<i→(th g (l.getD j default)).isSome=true)∧zs=⟨32,[(2,vvw (iF g)),(6,.own 6),(10,vvw (strs l)),(11,vvw (int l.length)),(12,vvw (int i))],[(6,.arr 89 ((vP g (l.take i)).map bm))]⟩) ?_ ?_
 exact⟨_,0,rfl,Z5 _,fun j hj=>absurd hj ace,rfl⟩
 rintro zm zs ⟨i,rfl,aZ,au,rfl⟩
 have hlen:(vP g (l.take i)).length=i:=by rw[x6,aaa];omega
 refine wS [3006] [2,6,10,11,12,13] [6] ?_ ?_<;>intro h1
 refine wA [7,6] [2,6,8,10,11,12] [6,8] ?_
 refine aS 32 [(2,_),(6,_),(8,_),(10,_),(11,_),(12,_)] [(6,_)] aa J ⟨.inl J,.inl J,.inr ⟨_,_,rfl,rfl,rfl⟩,.inl J,.inl J,.inl J,trivial⟩ ⟨rfl,trivial⟩ ?_
 refine Cw [3,5000] ?_
 refine oC J J J J (yf (p:=fun x=>decide (x.name=l.getD i default)) ace (fun x hx=>Em)) ?_
 refine wS [3010] [2,6,9,10,11,12,21] [6] ?_ ?_<;>intro h2
 refine wZ [14] ?_
 refine cK J J ?_;rotate_left
 have hx:=RE (p:=fun x:aG=>decide (x.name=l.getD i default)) (l:=g.rules)
 refine wA [8,1,1000,5,9002] [2,6,10,11,12] [6] ?_
 exact⟨_,⟨i+1,rfl,ace,gD au (by rw[show th g _=_ from qH.1 ace];rfl),by rw[Aw ace (qH.1 ace),Z8];rfl⟩,ace⟩
 refine wZ [14] ?_
 refine cK J J ?_;rotate_left
 all_goals
  first
   | (rw[(BZ (i:=i) ace (qH.2 ace)).1,(BZ (i:=i) ace (qH.2 ace)).2];exact⟨rfl,rfl⟩)
   | (rw[(wo (fun j hj=>au j ace)).1,(wo (fun j hj=>au j ace)).2,show l.take i=l from aaj ace];exact⟨rfl,rfl⟩)
theorem VT:G7 Tryz.prog 176 Tryz.f176.ntmps 4 5 (Tryz.f176.body.getD .skip):=⟨Tryz.f176,Tryz.func176,rfl,rfl,rfl,acf⟩
theorem vy {g:aI}{l:List (List UInt8)}(hg:g.rules.length≤1099511627776)(hl:l.length≤1048576):aX Tryz.prog 176 [df g,strs l] (.p (.tup [.sl ((bq g l).map bm),bool (mR g l)])):=by
 refine im VT (ZZ J) fun w0 M0 aa=>?_
 refine c6 [2,1006,9] [1,2,6,7] [6] ?_
 refine lp (fun zm zs=>∃i:Nat,zm=l.length-i∧(i≤l.length)∧(∀j,j<i→(th g (l.getD j default)).isSome=true)∧zs=⟨49,[(1,vvw (strs l)),(2,vvw (iF g)),(6,.own 6),(7,vvw (int i))],[(6,.arr 89 ((vP g (l.take i)).map bm))]⟩) ?_ ?_
 exact⟨_,0,rfl,Z5 _,fun j hj=>absurd hj ace,rfl⟩
 rintro zm zs ⟨i,rfl,aZ,au,rfl⟩
 have hlen:(vP g (l.take i)).length=i:=by rw[x6,aaa];omega
 refine wS [5,3003] [1,2,6,7,12] [6] ?_ ?_<;>intro h1
 refine wA [12] [1,2,6,7,8] [6] ?_
 refine lp (fun zm zs=>∃k:Nat,zm=g.rules.length-k∧(k≤g.rules.length)∧(∀j,j<k→decide ((g.rules.getD j default).name=l.getD i default)=false)∧zs=⟨49,[(1,vvw (strs l)),(2,vvw (iF g)),(6,.own 6),(7,vvw (int i)),(8,vvw (int k))],[(6,.arr 89 ((vP g (l.take i)).map bm))]⟩) ?_ ?_
 exact⟨_,0,rfl,Z5 _,fun j hj=>absurd hj ace,rfl⟩
 rintro zm zs ⟨k,rfl,fU,fW,rfl⟩
 refine wS [2002,6003,7002] [1,2,6,7,8,20] [6] ?_ ?_<;>intro h2'
 refine wS [6003,6004,6001,3003] [1,2,6,7,8,32] [6] ?_ ?_<;>intro h3
 refine wA [6,9003] [1,2,6,7,8] [6] ?_
 exact⟨_,⟨k+1,rfl,ace,b7 fW (by simp_all),rfl⟩,ace⟩
 refine wS [12,3003] [1,2,6,7,8,39] [6] ?_ ?_<;>intro h4
 refine wZ [14] ?_
 refine cK J J ?_;rotate_left
 refine wA [8,1,1000,6,9002] [1,2,6,7] [6] ?_;rotate_left
 refine wS [26,3003] [1,2,6,7,8,39] [6] ?_ ?_<;>intro h5
 refine wZ [14] ?_
 refine cK J J ?_;rotate_left
 refine wA [8,1,1000,6,9002] [1,2,6,7] [6] ?_;rotate_left
 refine wZ [14] ?_
 refine cK J J ?_;rotate_left
 all_goals first
  | (
    first
      | (rw[(BZ (i:=i) ace (nI (fun j hj=>fW j ace))).1,(BZ (i:=i) ace (nI (fun j hj=>fW j ace))).2];exact⟨rfl,rfl⟩)
      | (rw[(wo (fun j hj=>au j ace)).1,(wo (fun j hj=>au j ace)).2,show l.take i=l from aaj ace];exact⟨rfl,rfl⟩);done)
  | (
    first|(exfalso;omega)|exact⟨_,⟨i+1,rfl,ace,gD au (by rw[show th g _=some (g.rules.getD k default) from pW ace fW (by simp_all)];rfl),by rw[Aw ace (r:=g.rules.getD k default) (pW ace fW (by simp_all)),Z8];rfl⟩,ace⟩;done)
end Go.Proofs.YtlapahnodhmcpaaGreat
namespace Go.Wf
open Go.Am Go.Wb Go.Wc
def JY (x:Int):Bool:=decide (0≤x)&&decide (x<60)
def gu (l:List Int):Bool:=l.all JY
theorem En (w:List Int):(!w.any fun x=>!JY x)=gu w:=by
 unfold gu
 rw[List.not_any_eq_all_not]
 simp
def uF (l:List Int):Bool:=decide (l.length≤24)&&gu l
def ja (c:iq)(w:List Int):Bool:=decide (0≤c.strip)&&decide (c.strip≤24)&&decide (c.strip<(w.length:Int))&&decide (w.length≤24)&&gu w&&rP c.fits w
def kX (out x:List Int):List Int:=if x.length=0 then out else if out.length=0 then x else out++[63]++x
def iH (l:List (List Int)):List Int:=l.foldl kX []
theorem yh {l:List (List Int)}{i:Nat}(h:i<l.length):iH (l.take (i+1))=kX (iH (l.take i)) (l.getD i default):=by
 unfold iH;rw[take_succ h,abf];rfl
theorem H0 {out x:List Int}(h:x.length=0):kX out x=out++x:=by
 unfold kX;rw[if_pos h,aak h,aav]
theorem H2 {out x:List Int}(h:out.length=0):kX out x=out++x:=by
 have:out=[]:=aak h
 subst this
 unfold kX
 split
 ·next h=>rw[aak h];rfl
 ·rfl
theorem H3 {out x:List Int}(h:x.length≠0)(h1:out.length≠0):kX out x=out++[63]++x:=by unfold kX;rw[if_neg h,if_neg h1]
theorem JZ (out x:List Int):(kX out x).length≤out.length+1+x.length:=by
 unfold kX
 split
 ·omega
 ·split
  ·omega
  ·simp only[aab,Z2,Z9];omega
theorem J0 {l:List (List Int)}{B:Nat}(h:∀x∈l,x.length≤B):(iH l).length≤l.length*(B+1):=by
 have key:∀(l:List (List Int))(o:List Int),(∀x∈l,x.length≤B)→(l.foldl kX o).length≤o.length+l.length*(B+1):=by
   intro l
   induction l with
   | nil=>intro o _;simp
   | cons x l ih =>
     intro o h
     rw[abD]
     have h1:=ih (kX o x) fun y hy=>h y (aac _ hy)
     have h2:=JZ o x
     have h3:=h x Z7
     rw[Z2,abO];omega
 have:=key l [] h
 show(l.foldl kX []).length≤_
 rw[Z9,aaV] at this
 exact this
def wK (w:List Int)(l:List aG):List Int:=l.foldl (fun w r=>bp r w) w
def bz (w:List Int):List aG→Bool
 | []=>true
 | r :: l=>decide ((bp r w).length≤64)&&bz (bp r w) l
def nK (w:List Int):List aG→List (List UInt8)
 | []=>[]
 | r :: l=>(if bp r w=w then[] else[r.name])++nK (bp r w) l
theorem fq {w:List Int}{l:List aG}{i:Nat}(h:i<l.length):wK w (l.take (i+1))=bp (l.getD i default) (wK w (l.take i)):=by
 unfold wK;rw[take_succ h,abf];rfl
theorem NC:∀ (l m:List aG)(w:List Int),nK w (l++m)=nK w l++nK (wK w l) m
 | [],m,w=>rfl
 | r :: l, m, w => by
   show(if bp r w=w then[] else[r.name])++nK (bp r w) (l++m)=((if bp r w=w then[] else[r.name])++nK (bp r w) l)++_
   rw[NC l m,aaI];rfl
theorem tp {w:List Int}{l:List aG}{i:Nat}(h:i<l.length):nK w (l.take (i+1))=nK w (l.take i)++(if bp (l.getD i default) (wK w (l.take i))=wK w (l.take i) then[] else[(l.getD i default).name]):=by
 rw[take_succ h,NC]
 show _++((if _ then[] else[_])++[])=_
 rw[aav]
theorem rZ:∀ (l m:List aG)(w:List Int),bz w (l++m)=(bz w l&&bz (wK w l) m)
 | [],m,w=>rfl
 | r :: l, m, w => by
   show(decide _&&bz (bp r w) (l++m))=((decide _&&bz (bp r w) l)&&_)
   rw[rZ l m,Bool.and_assoc];rfl
theorem mT {w:List Int}{l:List aG}{i:Nat}(h:i<l.length):bz w (l.take (i+1))=(bz w (l.take i)&&decide ((wK w (l.take (i+1))).length≤64)):=by
 rw[fq h,take_succ h,rZ]
 show(_&&(decide _&&true))=_
 rw[Bool.and_true]
theorem AI {w:List Int}{l:List aG}{i:Nat}(h:i<l.length)(h2:64<(wK w (l.take (i+1))).length):bz w l=false:=by
 have e:l=l.take (i+1)++l.drop (i+1):=(aa3 _ _).symm
 rw[e,rZ,mT h,decide_eq_false (show ¬(wK w (l.take (i+1))).length≤64 by omega),abi,abc]
theorem oQ:∀ (l:List aG)(w:List Int),(nK w l).length≤l.length
 | [],w=>Z1 _
 | r :: l, w => by
   have:=oQ l (bp r w)
   unfold nK
   rw[aab,Z2]
   split<;>simp<;>omega
def gO (w:List Int):List Int:=w.filter fun x=>decide (x≠63)
theorem lJ {w:List Int}{i:Nat}(h:i<w.length):gO (w.take (i+1))=gO (w.take i)++(if w.getD i default=63 then[] else[w.getD i default]):=by
 unfold gO
 rw[take_succ h,aaW,aaN,abp]
 by_cases q:w.getD i default=63
 ·rw[if_pos q,if_neg (by simpa using q)]
 ·rw[if_neg q,if_pos (by simpa using q)]
theorem tq (w:List Int):(gO w).length≤w.length:=aba _ _
structure Qg (r:aG):Prop where
 pairs:r.pairs.length≤1000
 dst:∀p∈r.pairs,p.dst.length≤1000
 left:r.left.size≤200
 right:r.right.size≤100
theorem oR {r:aG}{w:List Int}:(bp r w).length≤3*w.length:=by
 by_cases h:bI r=true∧fD w=true
 ·rw[yd h rfl];exact(Ek h.1 _).1
 ·rw[AH (by cases h1:bI r<;>cases h2:fD w<;>simp_all)];omega
theorem VU {x:Int}(h:x<0):(!JY x)=true:=by unfold JY;rw[decide_eq_false ace];rfl
theorem VV {x:Int}(h:0≤x):(!JY x)=decide (60≤x):=by
 unfold JY;rw[decide_eq_true h,aaZ,←decide_not];exact decide_eq_decide.2 ace
theorem H4 {out x:List Int}(h:x.length=0):kX out x=out:=if_pos h
theorem H5 {l:List (List Int)}(hl:l.length≤32)(hB:∀x∈l,x.length≤1048576)(i:Nat):(iH (l.take i)).length≤32*1048577:=by
 have h1:=J0 (l:=l.take i) (B:=1048576) (fun x hx=>hB x (aa6 hx))
 have h2:(l.take i).length≤32:=by rw[aaa];omega
 exact aau h1 (aa2 _ h2)
end Go.Wf
namespace Go.Proofs.YtlapahnodhmcpaaGreat
open Go.Am Go.Wb Go.Wc Go.Wf Go.We
abbrev VW:=dU 2 Tryz.func225
theorem y7 {x:Int}:aq Tryz.prog 225 [int x] (.p (bool (!JY x))):=by
 refine cF VW fun w0 M0 aa=>?_
 refine rM [4010] [0,5] [] ?_ ?_<;>intro h1'
 refine wZ [8007] ?_;rotate_left
 refine wZ [8007] ?_;rotate_left
 all_goals
  first|(rw[VU ace];first|done|rfl)|(rw[VV ace];first|done|rfl)
abbrev VX:=dU 2 Tryz.func182
theorem tt {w:List Int}(hw:w.length≤1099511627776):aq Tryz.prog 182 [ints w] (.p (bool (gu w))):=by
 refine cF VX fun w0 M0 aa=>?_
 refine c6 [8] [3] [] ?_
 refine oC J J J J (Av (p:=fun x=>!JY x) ace (fun x hx=>y7)) ?_
 refine wZ [8005] ?_
 rw[En]
abbrev VY:=dU 2 Tryz.func177
theorem nh {w:List Int}(hw:w.length≤1099511627776):aq Tryz.prog 177 [ints w] (.p (bool (gu w))):=by
 refine cF VY fun w0 M0 aa=>?_
 refine c6 [12] [0,3] [] ?_
 refine lp (fun zm zs=>∃i:Nat,zm=w.length-i∧(i≤w.length)∧(∀j,j<i→JY (w.getD j default)=true)∧zs=⟨22,[(0,vvz (ints w)),(3,vvw (int i))],[]⟩) ?_ ?_
 exact⟨_,0,rfl,Z5 _,fun j hj=>absurd hj ace,rfl⟩
 rintro zm zs ⟨i,rfl,aZ,au,rfl⟩
 refine wS [5,3003] [0,3,7] [] ?_ ?_<;>intro h1
 refine wS [9,4003] [0,3,15] [] ?_ ?_<;>intro h2'
 refine wZ [8020] ?_;rotate_left
 refine wS [2,3005] [0,3,21] [] ?_ ?_<;>intro h3
 refine wZ [8012] ?_;rotate_left
 refine wA [6,9002] [0,3] [] ?_
 exact⟨_,⟨i+1,rfl,ace,b7 au (by unfold JY;simp_all;first|done|omega),rfl⟩,ace⟩
 refine wZ [8012] ?_;rotate_left
 all_goals
  show _=RV.p (Am.bool (w.all JY));first|(rw[As (i:=i) ace (by unfold JY;simp_all;first|done|omega)];done)|(rw[uD (fun j hj=>au j ace)];done)
abbrev VZ:=dU 2 Tryz.func142
theorem yi {w:List Int}(hw:w.length≤1099511627776):aq Tryz.prog 142 [ints w] (.p (bool (uF w))):=by
 refine cF VZ fun w0 M0 aa=>?_
 refine rM [8,4002] [0,6] [] ?_ ?_<;>intro h1'
 refine wA [1] [6,7] [] ?_
 refine oC J J J J (tt ace) ?_
 refine wZ [8005] ?_;rotate_left
 refine wZ [8007] ?_;rotate_left
 all_goals
  unfold uF;simp_all;first|done|omega
abbrev V0:=dU 4 Tryz.func118
theorem J1 {c:iq}{w:List Int}(hw:w.length≤1099511627776)(hc:c.fits.size≤1048576)(hS:(dy c.fits).size≤10000):aq Tryz.prog 118 [bT c,ints w] (.p (bool (ja c w))):=by
 refine cF V0 fun w0 M0 aa=>?_
 refine rM [2,4009] [1,2,8] [] ?_ ?_<;>intro h1'
 refine wS [4005] [1,2,13] [] ?_ ?_<;>intro h2'
 refine wS [1,4005] [1,2,20] [] ?_ ?_<;>intro h3'
 refine wS [1,4003] [1,2,25] [] ?_ ?_<;>intro h4'
 refine wA [1] [1,2,25,26] [] ?_
 refine oC J J J J (tt ace) ?_
 refine wS [4002] [1,2,29] [] ?_ ?_<;>intro h5'
 refine wA [3] [29,31,32] [] ?_
 refine oC J J J J (Eb (S:=10000) (N:=24) ace hS ace acg acg) ?_
 refine wZ [8005] ?_;rotate_left
 refine wZ [8009] ?_;rotate_left
 refine wZ [8013] ?_;rotate_left
 refine wZ [8018] ?_;rotate_left
 refine wZ [8025] ?_;rotate_left
 refine wZ [8030] ?_;rotate_left
 all_goals
  first|(unfold ja;simp_all;first|done|omega)|(unfold ja;simp_all)
abbrev V1:=dU 4 Tryz.func114
theorem Gy {c:iq}{w:List Int}(hw:w.length≤1099511627776)(hc:c.fits.size≤1048576):aq Tryz.prog 114 [bT c,ints w] (.p (bool (ja c w))):=by
 refine cF V1 fun w0 M0 aa=>?_
 refine rM [2,4009] [1,2,8] [] ?_ ?_<;>intro h1'
 refine wS [4005] [1,2,13] [] ?_ ?_<;>intro h2'
 refine wS [1,4005] [1,2,20] [] ?_ ?_<;>intro h3'
 refine wS [1,4003] [1,2,25] [] ?_ ?_<;>intro h4'
 refine wA [1] [1,2,25,26] [] ?_
 refine oC J J J J (nh ace) ?_
 refine wS [4002] [1,2,29] [] ?_ ?_<;>intro h5'
 refine wA [3] [29,31,32] [] ?_
 refine oC J J J J (by have h:=pT (r:=c.fits) (w:=w) ace ace;rw[←pU] at h;exact h) ?_
 refine wZ [8005] ?_;rotate_left
 refine wZ [8009] ?_;rotate_left
 refine wZ [8013] ?_;rotate_left
 refine wZ [8018] ?_;rotate_left
 refine wZ [8025] ?_;rotate_left
 refine wZ [8030] ?_;rotate_left
 all_goals
  first|(unfold ja;simp_all;first|done|omega)|(unfold ja;simp_all)
abbrev V2:=dU 4 Tryz.func181
theorem rm {a b:List Int}(ha:a.length≤1099511627776)(hb:b.length≤1099511627776):aq Tryz.prog 181 [ints a,ints b] (.p (bool (decide (a=b)))):=by
 refine cF V2 fun w0 M0 aa=>?_
 refine rM [9,1,3003] [0,1,10] [] ?_ ?_<;>intro h1
 refine wZ [8008] ?_
 rw[decide_eq_false];intro he;subst he;exact h1 rfl
 refine wA [10] [0,1,5] [] ?_
 refine lp (fun zm zs=>∃k:Nat,zm=a.length-k∧(k≤a.length)∧(a.take k=b.take k)∧zs=⟨26,[(0,vvz (ints a)),(1,vvz (ints b)),(5,vvw (int k))],[]⟩) ?_ ?_
 exact⟨_,0,rfl,Z5 _,rfl,rfl⟩
 rintro zm zs ⟨k,rfl,aZ,au,rfl⟩
 refine wS [5,3003] [0,1,5,14] [] ?_ ?_<;>intro h2
 refine wS [2006,6002,6003,3004] [0,1,5,25] [] ?_ ?_<;>intro h3
 refine wZ [8012] ?_
 rw[decide_eq_false];intro he;subst he;exact h3 rfl
 refine wA [6,9002] [0,1,5] [] ?_
 exact⟨_,⟨k+1,rfl,ace,by rw[take_succ ace,take_succ ace,au,h3],rfl⟩,ace⟩
 refine wZ [8012] ?_
 rw[decide_eq_true];have h:=au;rw[aaj ace,aaj ace] at h;exact h
abbrev XW:=dU 4 Tryz.func59
theorem vz {a b:List Int}(ha:a.length≤1099511627776)(hb:b.length≤1099511627776):aq Tryz.prog 59 [ints a,ints b] (.p (bool (decide (a=b)))):=by
 refine cF XW fun w0 M0 aa=>?_
 refine rM [9,1,3003] [0,1,10] [] ?_ ?_<;>intro h1
 refine wZ [8008] ?_
 rw[decide_eq_false];intro he;subst he;exact h1 rfl
 refine wA [7,4] [0,1,12,13] [] ?_
 refine lp (fun zm zs=>∃k:Nat,zm=a.length-k∧(k≤a.length)∧(a.take k=b.take k)∧zs=⟨26,[(0,vvz (ints a)),(1,vvz (ints b)),(12,vvw (int a.length)),(13,vvw (int k))],[]⟩) ?_ ?_
 exact⟨_,0,rfl,Z5 _,rfl,rfl⟩
 rintro zm zs ⟨k,rfl,aZ,au,rfl⟩
 refine wS [3006] [0,1,12,13,14] [] ?_ ?_<;>intro h2
 refine wS [2012,6002,6003,3004] [0,1,12,13,24] [] ?_ ?_<;>intro h3
 refine wZ [8012] ?_
 rw[decide_eq_false];intro he;subst he;exact h3 rfl
 refine wA [5,9002] [0,1,12,13] [] ?_
 exact⟨_,⟨k+1,rfl,ace,by rw[take_succ ace,take_succ ace,au,h3],rfl⟩,ace⟩
 refine wZ [8012] ?_
 rw[decide_eq_true];have h:=au;rw[aaj ace,aaj ace] at h;exact h
abbrev V3:=dU 2 Tryz.func121
theorem J2 {l:List (List Int)}(hl:l.length≤32)(hB:∀x∈l,x.length≤1048576):aq Tryz.prog 121 [my l] (.fresh 3 ((iH l).map int)):=by
 refine cF V3 fun w0 M0 aa=>?_
 refine c6 [1007,6,4] [3,6,7,8] [3] ?_
 refine lp (fun zm zs=>∃i:Nat,zm=l.length-i∧(i≤l.length)∧zs=⟨28,[(3,.own 3),(6,vvz (my l)),(7,vvw (int l.length)),(8,vvw (int i))],[(3,.arr 3 ((iH (l.take i)).map int))]⟩) ?_ ?_
 exact⟨_,0,rfl,Z5 _,rfl⟩
 rintro zm zs ⟨i,rfl,aZ,rfl⟩
 have hlen:(iH (l.take i)).length≤32*1048577:=H5 hl hB i
 have hx:=fun h:i<l.length=>hB _ (ba h)
 refine wS [3006] [3,6,7,8,9] [3] ?_ ?_<;>intro h1
 refine wS [7,8,4002] [3,5,6,7,8,15] [3] ?_ ?_<;>intro h2'
 refine wS [1,3004] [3,5,6,7,8,19] [3] ?_ ?_<;>intro h3
 refine wA [3,1000,1006,5,9002] [3,6,7,8] [3] ?_;rotate_left
 refine wA [1006,5,9002] [3,6,7,8] [3] ?_;rotate_left
 refine wA [1012,5,9002] [3,6,7,8] [3] ?_;rotate_left
 refine wZ [8013] ?_
 rw[aaj ace]
 all_goals
  exact⟨_,⟨i+1,rfl,ace,by rw[yh ace];first|(rw[H3 ace ace,Z8,Z8];rfl)|(rw[H2 ace,Z8];rfl)|(rw[H0 ace,Z8];rfl)|(rw[H4 ace];rfl)⟩,ace⟩
abbrev V4:=dU 2 Tryz.func116
theorem B7 {l:List (List Int)}(hl:l.length≤32)(hB:∀x∈l,x.length≤1048576):aq Tryz.prog 116 [my l] (.fresh 3 ((iH l).map int)):=by
 refine cF V4 fun w0 M0 aa=>?_
 refine c6 [1007,9] [0,3,4] [3] ?_
 refine lp (fun zm zs=>∃i:Nat,zm=l.length-i∧(i≤l.length)∧zs=⟨30,[(0,vvz (my l)),(3,.own 3),(4,vvw (int i))],[(3,.arr 3 ((iH (l.take i)).map int))]⟩) ?_ ?_
 exact⟨_,0,rfl,Z5 _,rfl⟩
 rintro zm zs ⟨i,rfl,aZ,rfl⟩
 have hlen:(iH (l.take i)).length≤32*1048577:=H5 hl hB i
 have hx:=fun h:i<l.length=>hB _ (ba h)
 refine wS [5,3003] [0,3,4,8] [3] ?_ ?_<;>intro h1
 refine wS [9,1,3003] [0,3,4,16] [3] ?_ ?_<;>intro h2
 refine wS [5,3003] [0,3,4,19] [3] ?_ ?_<;>intro h3
 refine wA [3,1000,7,1001,6,9002] [0,3,4] [3] ?_;rotate_left
 refine wA [7,1001,6,9002] [0,3,4] [3] ?_;rotate_left
 refine wA [6,9002] [0,3,4] [3] ?_;rotate_left
 refine wZ [8013] ?_
 rw[aaj ace]
 all_goals
  exact⟨_,⟨i+1,rfl,ace,by rw[yh ace];first|(rw[H3 ace ace,Z8,Z8];rfl)|(rw[H2 ace,Z8];rfl)|(rw[H0 ace,Z8];rfl)|(rw[H4 ace];rfl)⟩,ace⟩
end Go.Proofs.YtlapahnodhmcpaaGreat
namespace Go.Wf
open Go.Am Go.Wb Go.Wc
def lj (w:List Int):List aG→List Int×List (List UInt8)×Bool
 | []=>(w,[],false)
 | r :: l => if (bp r w).length ≤ 64 then ((lj (bp r w) l).1, (if bp r w = w then [] else [r.name]) ++ (lj (bp r w) l).2.1, (lj (bp r w) l).2.2)
   else(bp r w,(if bp r w=w then[] else[r.name]),true)
theorem nN:∀ {l:List aG}{w:List Int},bz w l=true→lj w l=(wK w l,nK w l,false)
 | [],w,_=>rfl
 | r :: l, w, h => by
   unfold bz at h
   rw[aae,decide_eq_true_eq] at h
   unfold lj
   rw[if_pos h.1,nN h.2];rfl
theorem yj (r:aG)(l:List aG)(w:List Int):lj w (r :: l)=if(bp r w).length≤64 then((lj (bp r w) l).1,(if bp r w=w then[] else[r.name])++(lj (bp r w) l).2.1,(lj (bp r w) l).2.2)
 else(bp r w,(if bp r w=w then[] else[r.name]),true):=rfl
theorem H6:∀ {l m:List aG}{w:List Int},bz w l=true→lj w (l++m)=((lj (wK w l) m).1,nK w l++(lj (wK w l) m).2.1,(lj (wK w l) m).2.2)
 | [],m,w,_=>rfl
 | r :: l, m, w, h => by
   unfold bz at h
   rw[aae,decide_eq_true_eq] at h
   show lj w (r :: (l++m))=((lj (wK (bp r w) l) m).1,((if bp r w=w then[] else[r.name])++nK (bp r w) l)++(lj (wK (bp r w) l) m).2.1,(lj (wK (bp r w) l) m).2.2)
   rw[yj,if_pos h.1,H6 h.2,aaI]
theorem To {w:List Int}{l:List aG}{i:Nat}(h:bz w (l.take i)=true)(hi:l.length≤i):lj w l=(wK w (l.take i),nK w (l.take i),false):=by
 rw[aaj hi] at h ⊢
 exact nN h
theorem Qh {w:List Int}{l:List aG}{i:Nat}(hi:i<l.length)(h:bz w (l.take i)=true)(h2:64<(wK w (l.take (i+1))).length):lj w l=(wK w (l.take (i+1)),nK w (l.take (i+1)),true):=by
 have e:l=l.take i++(l.getD i default :: l.drop (i+1)):=by rw[dT hi,←abh hi,aa3]
 rw[fq hi] at h2
 conv=>lhs;rw[e]
 rw[H6 h,fq hi,tp hi]
 have:lj (wK w (l.take i)) (l.getD i default :: l.drop (i+1))=(bp (l.getD i default) (wK w (l.take i)),(if bp (l.getD i default) (wK w (l.take i))=wK w (l.take i) then[] else[(l.getD i default).name]),true):=by
  rw[yj,if_neg ace]
 rw[this]
theorem tu {w:List Int}{l:List aG}:(lj w l).2.2=!bz w l:=by
 induction l generalizing w with
 | nil=>rfl
 | cons r l ih =>
   unfold lj bz
   by_cases h:(bp r w).length≤64
   · rw[if_pos h,decide_eq_true h,aaZ];exact ih
   · rw[if_neg h,decide_eq_false h];rfl
theorem H7 {l:List aG}:∀{w:List Int},w.length≤192→(l≠[]→w.length≤64)→(lj w l).1.length≤192:=by
 induction l with
 | nil=>intro w h _;exact h
 | cons r l ih =>
   intro w h h1
   have h2:=h1 (by simp)
   have h3:=oR (r:=r) (w:=w)
   unfold lj
   by_cases q:(bp r w).length≤64
   · rw[if_pos q];exact ih ace fun _=>q
   · rw[if_neg q];show(bp r w).length≤192;omega
end Go.Wf
namespace Go.Proofs.YtlapahnodhmcpaaGreat
open Go.Am Go.Wb Go.Wc Go.Wf Go.We
theorem RO:QS Tryz.prog 115 Tryz.f115.ntmps 4 5 6 (Tryz.f115.body.getD .skip):=⟨Tryz.f115,Tryz.func115,rfl,rfl,rfl,acf⟩
theorem OF {w:List Int}{l:List aG}(hw:w.length≤64)(hl:l.length≤1048576)(hR:∀r∈l,Qg r) :
   aX Tryz.prog 115 [ints w,.sl (l.map bm)] (.p (.tup [ints (if bz w l=true then wK w l else[]),strs (if bz w l=true then nK w l else[]),bool (bz w l)])):=by
 refine py RO (ZZ J) fun w0 M0 aa=>?_
 refine c6 [1009,9] [0,1,7,8] [7] ?_
 refine lp (fun zm zs=>∃i:Nat,zm=l.length-i∧(i≤l.length)∧(bz w (l.take i)=true)∧((wK w (l.take i)).length≤64)∧zs=⟨40,[(0,vvw (ints (wK w (l.take i)))),(1,vvw (.sl (l.map bm))),(7,.own 7),(8,vvw (int i))],[(7,.arr 9 ((nK w (l.take i)).map aj))]⟩) ?_ ?_
 exact⟨_,0,rfl,Z5 _,rfl,hw,rfl⟩
 rintro zm zs ⟨i,rfl,aZ,au,cX,rfl⟩
 have ND:=fun h:i<l.length=>hR _ (ba h)
 have hn:(nK w (l.take i)).length≤l.length:=aau (oQ _ _) (by rw[aaa];omega)
 refine wS [5,3003] [0,1,7,8,13] [7] ?_ ?_<;>intro h1
 refine wA [9,2] [0,1,7,8,19,20] [7] ?_
 refine oC J J J J (by have h:=vu (r:=l.getD i default) (w:=(wK w (l.take i))) ace (by have:=(ND ace).pairs;omega) (fun p hp=>aau ((ND ace).dst p hp) acg) (by have:=(ND ace).left;omega) (by have:=(ND ace).right;omega);rw[←D1] at h;exact h) ?_
 refine wA [8] [1,7,8,9,22,23] [7] ?_
 refine oC J J J J (rm (a:=bp (l.getD i default) (wK w (l.take i))) (b:=(wK w (l.take i))) (by have:=oR (r:=l.getD i default) (w:=(wK w (l.take i)));omega) ace) ?_
 refine wS [3003] [1,7,8,9,25] [7] ?_ ?_<;>intro h2
 refine wS [5,2,1000,12,3003] [0,1,7,8,37] [7] ?_ ?_<;>intro h3
 refine wZ [14] ?_
 refine gm J J J ?_;rotate_left
 refine wA [6,9002] [0,1,7,8] [7] ?_;rotate_left
 refine wS [12,3003] [0,1,7,8,37] [7] ?_ ?_<;>intro h4
 refine wZ [14] ?_
 refine gm J J J ?_;rotate_left
 refine wA [6,9002] [0,1,7,8] [7] ?_;rotate_left
 refine wZ [16] ?_
 refine gm J J J ?_;rotate_left
 all_goals first
  | (
    first
      | (rw[AI (i:=i) ace (by rw[fq ace];omega)];exact⟨rfl,rfl,rfl⟩)
      | (rw[aaj ace] at *;rw[show bz w l=true by assumption];exact⟨rfl,rfl,rfl⟩);done)
  | (
    exact⟨_,⟨i+1,rfl,ace,(by rw[mT ace,au,fq ace,aaZ];exact decide_eq_true ace),(by rw[fq ace];omega),by rw[fq ace,tp ace];first|(rw[if_pos ach,aav];rfl)|(rw[if_neg ach,Z8];rfl)⟩,ace⟩;done)
theorem Eo {r:aG}{w:List Int}(h:Qg r)(hw:w.length≤64):aq Tryz.prog 120 [bm r,ints w] (.fresh 3 ((bp r w).map int)):=by
 have h1:=h.left
 have h2:=h.right
 have h3:=h.pairs
 have e1:=lX false (fE r.left)
 have e2:=yb r.left
 have e3:=lX false (fE (eo r.right))
 have e4:=yb (eo r.right)
 have e5:=Eh r.right
 have s1:(dy (fE r.left)).size≤600:=by unfold dy;split<;>first|omega|decide
 have s2:(dy (fE (eo r.right))).size≤600:=by unfold dy;split<;>first|omega|decide
 refine Gu (S:=600) ace ace (fun p hp=>aau (h.dst p hp) acg) ace ace s1 s2 ?_
 have hm:2*600*(w.length+1+2)+66≤80466:=ace
 exact aau (Nat.mul_le_mul hm hm) acg
abbrev V5:=dU 6 Tryz.func119
theorem yk {w:List Int}{l:List aG}{acc:List (List UInt8)}{cn:List UInt8}(hw:w.length≤64)(hl:l.length≤1048576)(hR:∀r∈l,Qg r)(ha:acc.length≤1048576) :
   lg Tryz.prog 119 [vvw (ints w),vvz (.sl (l.map bm)),.pbox 1000000 0,.pbox 1000001 0]
     [(11,.arr 9 (acc.map aj)),(1000000,.box 64 [vvw (aj cn),vvv,vvv,.own 11]),(1000001,.box 4 [vvw (bool false)])]
     (vvw (ints (lj w l).1)) [(11,.arr 9 ((acc++(lj w l).2.1).map aj)),(1000000,.box 64 [vvw (aj cn),vvv,vvv,.own 11]),(1000001,.box 4 [vvw (bool (lj w l).2.2)])]:=by
 refine gz V5 (ZZ J) fun w0 M0 aa=>?_
 refine c6 [9,4] [0,2,3,10,11,12] [11,1000000,1000001] ?_
 refine lp (fun zm zs=>∃i:Nat,zm=l.length-i∧(i≤l.length)∧(bz w (l.take i)=true)∧((wK w (l.take i)).length≤64)∧zs=⟨40,[(0,vvw (ints (wK w (l.take i)))),(2,.pbox 1000000 0),(3,.pbox 1000001 0),(10,vvz (.sl (l.map bm))),(11,vvw (int l.length)),(12,vvw (int i))],[(11,.arr 9 ((acc++nK w (l.take i)).map aj)),(1000000,.box 64 [vvw (aj cn),vvv,vvv,.own 11]),(1000001,.box 4 [vvw (bool false)])]⟩) ?_ ?_
 exact⟨_,0,rfl,Z5 _,rfl,hw,by rw[show nK w (l.take 0)=[] from J,aav];rfl⟩
 rintro zm zs ⟨i,rfl,aZ,au,cX,rfl⟩
 have ND:=fun h:i<l.length=>hR _ (ba h)
 have hn:(nK w (l.take i)).length≤l.length:=aau (oQ _ _) (by rw[aaa];omega)
 refine wS [3006] [0,2,3,10,11,12,13] [11,1000000,1000001] ?_ ?_<;>intro h1
 refine wA [7,9] [0,2,3,8,10,11,12,16,17] [8,11,1000000,1000001] ?_
 refine oC J J J J (Eo (r:=l.getD i default) (w:=(wK w (l.take i))) (ND ace) ace) ?_
 refine wA [8] [2,3,8,9,10,11,12,19,20] [8,11,1000000,1000001] ?_
 refine oC J J J J (vz (a:=bp (l.getD i default) (wK w (l.take i))) (b:=(wK w (l.take i))) (by have:=oR (r:=l.getD i default) (w:=(wK w (l.take i)));omega) ace) ?_
 refine wS [3003] [2,3,8,9,10,11,12,22] [8,11,1000000,1000001] ?_ ?_<;>intro h2
 refine wA [6,1000,12] [0,2,3,10,11,12] [11,1000000,1000001] ?_
 refine oP J (cI (b':=false) (ae J Rp J J J) (rfl)) ?_
 refine wS [2,3010] [0,2,3,10,11,12,37] [11,1000000,1000001] ?_ ?_<;>intro h3
 refine wZ [14] ?_
 refine ey (o1:=[(11,_),(1000000,_),(1000001,_)]) J ⟨rfl,rfl,rfl,trivial⟩ ?_;rotate_left
 refine wA [5,9002] [0,2,3,10,11,12] [11,1000000,1000001] ?_;rotate_left
 refine wA [11] [0,2,3,10,11,12] [11,1000000,1000001] ?_
 refine oP J (cI (b':=false) (ae J Rp J J J) (rfl)) ?_
 refine wS [2,3010] [0,2,3,10,11,12,37] [11,1000000,1000001] ?_ ?_<;>intro h4
 refine wZ [14] ?_
 refine ey (o1:=[(11,_),(1000000,_),(1000001,_)]) J ⟨rfl,rfl,rfl,trivial⟩ ?_;rotate_left
 refine wA [5,9002] [0,2,3,10,11,12] [11,1000000,1000001] ?_;rotate_left
 refine wZ [13] ?_
 refine ey (o1:=[(11,_),(1000000,_),(1000001,_)]) J ⟨rfl,rfl,rfl,trivial⟩ ?_;rotate_left
 all_goals first
  | (
    first
      | (rw[To (l:=l) au ace];exact⟨rfl,rfl⟩)
      | (rw[Qh (l:=l) (i:=i) ace au (by rw[fq ace];omega),fq ace,tp ace,decide_eq_true (p:=(64:Int)<((bp (l.getD i default) (wK w (l.take i))).length:Int)) ace];first|(rw[if_pos ach,aav];exact⟨rfl,rfl⟩)|(rw[if_neg ach,←aaI,Z8 (l₁:=acc++_)];exact⟨rfl,rfl⟩));done)
  | (
    exact⟨_,⟨i+1,rfl,ace,(by rw[mT ace,au,fq ace,aaZ];exact decide_eq_true ace),(by rw[fq ace];omega),by rw[fq ace,tp ace,decide_eq_false (p:=(64:Int)<((bp (l.getD i default) (wK w (l.take i))).length:Int)) ace];first|(rw[if_pos ach,aav];rfl)|(rw[if_neg ach,←aaI,Z8 (l₁:=acc++_)];rfl)⟩,ace⟩;done)
end Go.Proofs.YtlapahnodhmcpaaGreat
