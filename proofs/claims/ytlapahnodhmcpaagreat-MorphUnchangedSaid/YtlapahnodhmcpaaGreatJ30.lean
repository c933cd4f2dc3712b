/-
  Part of the proof.
-/
import Derived.Test.YtlapahnodhmcpaaGreatJ0
import Derived.Test.YtlapahnodhmcpaaGreatJ16
import Derived.Test.YtlapahnodhmcpaaGreatJ26
import Derived.Test.YtlapahnodhmcpaaGreatJ29
import Derived.Test.YtlapahnodhmcpaaGreatJ12
set_option linter.unusedVariables false
set_option linter.unusedSectionVars false
set_option linter.unusedSimpArgs false
set_option maxRecDepth 100000
set_option maxHeartbeats 40000000
namespace Go.Proofs.YtlapahnodhmcpaaGreat
open Go.Am Go.Wb Go.Wc Go.Wf
theorem YJ:BR Tryz.prog 78 Tryz.f78.ntmps 4 97 6 5 (Tryz.f78.body.getD .skip):=⟨Tryz.f78,Tryz.func78,rfl,rfl,rfl,acL,TU,Cz⟩
variable{g:aC}{n:List UInt8}
theorem E7 (hl:g.classes.length≤1099511627776):aU Tryz.prog 78 [cV g,ah n] (.p (.tup [bL ((fR g n).getD ER),bool (fR g n).isSome])):=by
 refine dn YJ (aah J) fun w0 M0 aa=>?_
 refine c4 [2,11] [1,2,4,6] [4] ?_;refine lr (fun zl zo zm zs=>∃i:Nat,zm=g.classes.length-i∧(i≤g.classes.length)∧(∀j,j<i→decide ((g.classes.getD j default).name=n)=false)∧zs=eJ 28 [(6,vvw (int i))] zl [] zo) ?_ ?_;exact⟨_,0,rfl,aan _,fun j hj=>absurd hj acK,rfl⟩;rintro zm zs ⟨i,rfl,aY,aq,rfl⟩;refine wS [6,3003] [1,2,4,6,11] [4] ?_ ?_<;>intro h1;refine wS [10,3,3002] [1,2,4,6,21] [4] ?_ ?_<;>intro h2;refine wZ [6,11] ?_;refine bz J J ?_;rotate_left;refine wA [6,9002] [1,2,4,6] [4] ?_;exact⟨_,⟨i+1,rfl,acK,bX aq (by simp_all),rfl⟩,acK⟩;refine wA [8] [4] [4] ?_;refine oP J (au (aT J TV QG J J J) J) ?_;refine wZ [5] ?_;refine bz J J ?_;rotate_left
 all_goals
  first|(rw[show fR g n=some (g.classes.getD i default) from qs acK aq (by simp_all)];exact⟨rfl,rfl⟩)|(rw[show fR g n=none from nZ (fun j hj=>aq j acK)];exact⟨rfl,rfl⟩)
theorem Ww:BR Tryz.prog 113 Tryz.f113.ntmps 4 112 4 5 (Tryz.f113.body.getD .skip):=⟨Tryz.f113,Tryz.func113,rfl,rfl,rfl,acL,Sd,Iw⟩
theorem Hh {c:iy}(hl:c.cells.length≤1099511627776):aU Tryz.prog 113 [bL c,ah n] (.p (.tup [dD ((ng c n).getD IH),bool (ng c n).isSome])):=by
 refine dn Ww (aah J) fun w0 M0 aa=>?_
 refine c4 [2,11] [1,2,4,6] [4] ?_;refine lr (fun zl zo zm zs=>∃i:Nat,zm=c.cells.length-i∧(i≤c.cells.length)∧(∀j,j<i→decide ((c.cells.getD j default).name=n)=false)∧zs=eJ 28 [(6,vvw (int i))] zl [] zo) ?_ ?_;exact⟨_,0,rfl,aan _,fun j hj=>absurd hj acK,rfl⟩;rintro zm zs ⟨i,rfl,aY,aq,rfl⟩;refine wS [6,3003] [1,2,4,6,11] [4] ?_ ?_<;>intro h1;refine wS [10,3,3002] [1,2,4,6,21] [4] ?_ ?_<;>intro h2;refine wZ [6,11] ?_;refine bz J J ?_;rotate_left;refine wA [6,9002] [1,2,4,6] [4] ?_;exact⟨_,⟨i+1,rfl,acK,bX aq (by simp_all),rfl⟩,acK⟩;refine wA [8] [4] [4] ?_;refine oP J (au (aT J N2 N1 J J J) J) ?_;refine wZ [5] ?_;refine bz J J ?_;rotate_left
 all_goals
  first|(rw[show ng c n=some (c.cells.getD i default) from qs acK aq (by simp_all)];exact⟨rfl,rfl⟩)|(rw[show ng c n=none from nZ (fun j hj=>aq j acK)];exact⟨rfl,rfl⟩)
theorem YK:BR Tryz.prog 80 Tryz.f80.ntmps 4 97 6 5 (Tryz.f80.body.getD .skip):=⟨Tryz.f80,Tryz.func80,rfl,rfl,rfl,acL,TU,Cz⟩
theorem yL (hl:g.classes.length≤1099511627776):aU Tryz.prog 80 [cV g,ah n] (.p (.tup [bL ((fR g n).getD ER),bool (fR g n).isSome])):=by
 refine dn YK (aah J) fun w0 M0 aa=>?_
 refine c4 [2,9,4] [1,4,9,10,11] [4] ?_;refine lr (fun zl zo zm zs=>∃i:Nat,zm=g.classes.length-i∧(i≤g.classes.length)∧(∀j,j<i→decide ((g.classes.getD j default).name=n)=false)∧zs=eJ 22 [(11,vvw (int i))] zl [] zo) ?_ ?_;exact⟨_,0,rfl,aan _,fun j hj=>absurd hj acK,rfl⟩;rintro zm zs ⟨i,rfl,aY,aq,rfl⟩;refine wS [3006] [1,4,9,10,11,12] [4] ?_ ?_<;>intro h1;refine wA [7,6] [1,4,7,9,10,11] [4,7] ?_;refine aI 22 [(1,_),(4,_),(7,_),(9,_),(10,_),(11,_)] [(4,_)] aa J ⟨.inl J,.inl J,.inr ⟨_,_,rfl,rfl,rfl⟩,.inl J,.inl J,.inl J,trivial⟩ ⟨rfl,trivial⟩ ?_;refine U0 [4,3002] [1,4,7,9,10,11,18] [4] ?_ ?_<;>intro h2;refine wZ [14] ?_;refine bz J J ?_;rotate_left;refine wA [5,9002] [1,4,9,10,11] [4] ?_;exact⟨_,⟨i+1,rfl,acK,bX aq (by simp_all),rfl⟩,acK⟩;refine wA [8] [4] [4] ?_;refine oP J (au (aT J TV QG J J J) J) ?_;refine wZ [5] ?_;refine bz J J ?_;rotate_left
 all_goals
  first|(rw[show fR g n=some (g.classes.getD i default) from qs acK aq (by simp_all)];exact⟨rfl,rfl⟩)|(rw[show fR g n=none from nZ (fun j hj=>aq j acK)];exact⟨rfl,rfl⟩)
abbrev Wx:=dF 4 Tryz.func195
theorem yM {l:List aF}{p:aF→Bool}{g:FuncId}{caps:List AV}(hl:l.length≤1099511627776)(hf:∀x∈l,ak Tryz.prog g ([bn x]++caps) (.p (bool (p x)))):ak Tryz.prog 195 [.sl (l.map bn),.clo g caps] (.p (int (eB p l))):=by
 refine cF Wx fun w0 M0 aa=>?_
 refine c4 [9,4] [0,1,7,8] [] ?_;refine lr (fun zl zo zm zs=>∃k:Nat,zm=l.length-k∧(k≤l.length)∧(∀j,j<k→p (l.getD j default)=false)∧zs=eJ 19 [(7,vvw (int l.length)),(8,vvw (int k))] zl [] zo) ?_ ?_;exact⟨_,0,rfl,aan _,fun j hj=>absurd hj acK,rfl⟩;rintro zm zs ⟨k,rfl,aY,aq,rfl⟩;refine wS [3006] [0,1,7,8,9] [] ?_ ?_<;>intro h1;refine wA [16,1] [0,1,5,7,8,11,15] [] ?_;refine oC J J J J (hf _ (aM acK)) ?_;refine wS [3002] [0,1,5,7,8,16] [] ?_ ?_<;>intro h2;refine wZ [8013] ?_;rw[←nJ (p:=p) (l:=l) (k:=k) acK aq (by simp_all)];refine wA [5,9002] [0,1,7,8] [] ?_;exact⟨_,⟨k+1,rfl,acK,bX aq (by simp_all),rfl⟩,acK⟩;refine wZ [8012] ?_;rw[←lT (p:=p) (l:=l) (fun j hj=>aq j acK)]
abbrev Wy:=dF 4 Tryz.func137
theorem Hi {l:List gU}{p:gU→Bool}{g:FuncId}{caps:List AV}(hl:l.length≤1099511627776)(hf:∀x∈l,ak Tryz.prog g ([dD x]++caps) (.p (bool (p x)))):ak Tryz.prog 137 [.sl (l.map dD),.clo g caps] (.p (int (eB p l))):=by
 refine cF Wy fun w0 M0 aa=>?_
 refine c4 [9,4] [0,1,7,8] [] ?_;refine lr (fun zl zo zm zs=>∃k:Nat,zm=l.length-k∧(k≤l.length)∧(∀j,j<k→p (l.getD j default)=false)∧zs=eJ 19 [(7,vvw (int l.length)),(8,vvw (int k))] zl [] zo) ?_ ?_;exact⟨_,0,rfl,aan _,fun j hj=>absurd hj acK,rfl⟩;rintro zm zs ⟨k,rfl,aY,aq,rfl⟩;refine wS [3006] [0,1,7,8,9] [] ?_ ?_<;>intro h1;refine wA [16,1] [0,1,5,7,8,11,15] [] ?_;refine oC J J J J (hf _ (aM acK)) ?_;refine wS [3002] [0,1,5,7,8,16] [] ?_ ?_<;>intro h2;refine wZ [8013] ?_;rw[←nJ (p:=p) (l:=l) (k:=k) acK aq (by simp_all)];refine wA [5,9002] [0,1,7,8] [] ?_;exact⟨_,⟨k+1,rfl,acK,bX aq (by simp_all),rfl⟩,acK⟩;refine wZ [8012] ?_;rw[←lT (p:=p) (l:=l) (fun j hj=>aq j acK)]
abbrev Wz:=dF 3 Tryz.func196
theorem E8 {r:aF}:ak Tryz.prog 196 ([bn r]++[.pc [ah n] 0]) (.p (bool (decide (r.name=n)))):=by
 refine cF Wz fun w0 M0 aa=>?_
 refine AD [2,8,8004] ?_;rfl
abbrev WA:=dF 3 Tryz.func138
theorem Hj {c:gU}:ak Tryz.prog 138 ([dD c]++[.pc [ah n] 0]) (.p (bool (decide (c.name=n)))):=by
 refine cF WA fun w0 M0 aa=>?_
 refine AD [2,8,8004] ?_;rfl
theorem WB:F7 Tryz.prog 139 Tryz.f139.ntmps 4 5 (Tryz.f139.body.getD .skip):=⟨Tryz.f139,Tryz.func139,rfl,rfl,rfl,acL⟩
theorem yN {l:List (List UInt8)}(hg:g.rules.length≤1099511627776)(hl:l.length≤1048576):aU Tryz.prog 139 [cV g,strs l] (.p (.tup [.sl ((bq g l).map bn),bool (nh g l)])):=by
 refine eD WB (aah J) fun w0 M0 aa=>?_
 refine c4 [2,1006,6,4] [2,6,10,11,12] [6] ?_;refine lr (fun zl zo zm zs=>∃i:Nat,zm=l.length-i∧(i≤l.length)∧(∀j,j<i→(tG g (l.getD j default)).isSome=true)∧zs=eJ 32 [(6,.own 6),(12,vvw (int i))] zl [(6,.arr 89 ((wv g (l.take i)).map bn))] zo) ?_ ?_;exact⟨_,0,rfl,aan _,fun j hj=>absurd hj acK,rfl⟩;rintro zm zs ⟨i,rfl,aY,aq,rfl⟩;have hlen:(wv g (l.take i)).length=i:=by rw[yC,aau];omega
 refine wS [3006] [2,6,10,11,12,13] [6] ?_ ?_<;>intro h1;refine wA [7,6] [2,6,8,10,11,12] [6,8] ?_;refine aI 32 [(2,_),(6,_),(8,_),(10,_),(11,_),(12,_)] [(6,_)] aa J ⟨.inl J,.inl J,.inr ⟨_,_,rfl,rfl,rfl⟩,.inl J,.inl J,.inl J,trivial⟩ ⟨rfl,trivial⟩ ?_;refine xP [3,5000] ?_;refine oC J J J J (yM (p:=fun x=>decide (x.name=l.getD i default)) acK (fun x hx=>E8)) ?_;refine wS [3010] [2,6,9,10,11,12,21] [6] ?_ ?_<;>intro h2;refine wZ [14] ?_;refine cu J J ?_;rotate_left;have hx:=Sl (p:=fun x:aF=>decide (x.name=l.getD i default)) (l:=g.rules);refine wA [8,1,1000,5,9002] [2,6,10,11,12] [6] ?_;exact⟨_,⟨i+1,rfl,acK,fP aq (by rw[show tG g _=_ from ri.1 acK];rfl),by rw[Bf acK (ri.1 acK),aas];rfl⟩,acK⟩;refine wZ [14] ?_;refine cu J J ?_;rotate_left
 all_goals
  first
   | (rw[(CC (i:=i) acK (ri.2 acK)).1,(CC (i:=i) acK (ri.2 acK)).2];exact⟨rfl,rfl⟩)
   | (rw[(wX (fun j hj=>aq j acK)).1,(wX (fun j hj=>aq j acK)).2,show l.take i=l from aaB acK];exact⟨rfl,rfl⟩)
theorem WC:F7 Tryz.prog 176 Tryz.f176.ntmps 4 5 (Tryz.f176.body.getD .skip):=⟨Tryz.f176,Tryz.func176,rfl,rfl,rfl,acL⟩
theorem vX {l:List (List UInt8)}(hg:g.rules.length≤1099511627776)(hl:l.length≤1048576):aU Tryz.prog 176 [cV g,strs l] (.p (.tup [.sl ((bq g l).map bn),bool (nh g l)])):=by
 refine eD WC (aah J) fun w0 M0 aa=>?_
 refine c4 [2,1006,9] [1,2,6,7] [6] ?_;refine lp (fun zm zs=>∃i:Nat,zm=l.length-i∧(i≤l.length)∧(∀j,j<i→(tG g (l.getD j default)).isSome=true)∧zs=⟨49,[(1,vvw (strs l)),(2,vvw (kn g)),(6,.own 6),(7,vvw (int i))],[(6,.arr 89 ((wv g (l.take i)).map bn))]⟩) ?_ ?_;exact⟨_,0,rfl,aan _,fun j hj=>absurd hj acK,rfl⟩;rintro zm zs ⟨i,rfl,aY,aq,rfl⟩;have hlen:(wv g (l.take i)).length=i:=by rw[yC,aau];omega
 refine wS [5,3003] [1,2,6,7,12] [6] ?_ ?_<;>intro h1;refine wA [12] [1,2,6,7,8] [6] ?_;refine lr (fun zl zo zm zs=>∃k:Nat,zm=g.rules.length-k∧(k≤g.rules.length)∧(∀j,j<k→decide ((g.rules.getD j default).name=l.getD i default)=false)∧zs=eJ 49 [(6,.own 6),(7,vvw (int i)),(8,vvw (int k))] zl [(6,.arr 89 ((wv g (l.take i)).map bn))] zo) ?_ ?_;exact⟨_,0,rfl,aan _,fun j hj=>absurd hj acK,rfl⟩;rintro zm zs ⟨k,rfl,fu,gi,rfl⟩;refine wS [2002,6003,7002] [1,2,6,7,8,20] [6] ?_ ?_<;>intro h2';refine wS [6003,6004,6001,3003] [1,2,6,7,8,32] [6] ?_ ?_<;>intro h3;refine wA [6,9003] [1,2,6,7,8] [6] ?_;exact⟨_,⟨k+1,rfl,acK,bX gi (by simp_all),rfl⟩,acK⟩;refine wS [12,3003] [1,2,6,7,8,39] [6] ?_ ?_<;>intro h4;refine wZ [14] ?_;refine cu J J ?_;rotate_left;refine wA [8,1,1000,6,9002] [1,2,6,7] [6] ?_;rotate_left;refine wS [26,3003] [1,2,6,7,8,39] [6] ?_ ?_<;>intro h5;refine wZ [14] ?_;refine cu J J ?_;rotate_left;refine wA [8,1,1000,6,9002] [1,2,6,7] [6] ?_;rotate_left;refine wZ [14] ?_;refine cu J J ?_;rotate_left
 all_goals first
  | (
    first
      | (rw[(CC (i:=i) acK (nZ (fun j hj=>gi j acK))).1,(CC (i:=i) acK (nZ (fun j hj=>gi j acK))).2];exact⟨rfl,rfl⟩)
      | (rw[(wX (fun j hj=>aq j acK)).1,(wX (fun j hj=>aq j acK)).2,show l.take i=l from aaB acK];exact⟨rfl,rfl⟩);done)
  | (
    first|(exfalso;omega)|exact⟨_,⟨i+1,rfl,acK,fP aq (by rw[show tG g _=some (g.rules.getD k default) from qs acK gi (by simp_all)];rfl),by rw[Bf acK (r:=g.rules.getD k default) (qs acK gi (by simp_all)),aas];rfl⟩,acK⟩;done)
end Go.Proofs.YtlapahnodhmcpaaGreat
namespace Go.Wf
open Go.Am Go.Wb Go.Wc
def KJ (x:Int):Bool:=decide (0≤x)&&decide (x<60)
def gE (l:List Int):Bool:=l.all KJ
theorem E9 (w:List Int):(!w.any fun x=>!KJ x)=gE w:=by unfold gE;rw[List.not_any_eq_all_not];simp
def u2 (l:List Int):Bool:=decide (l.length≤24)&&gE l
def jd (c:iy)(w:List Int):Bool:=decide (0≤c.strip)&&decide (c.strip≤24)&&decide (c.strip<(w.length:Int))&&decide (w.length≤24)&&gE w&&sk c.fits w
def lf (out x:List Int):List Int:=if x.length=0 then out else if out.length=0 then x else out++[63]++x
def iI (l:List (List Int)):List Int:=l.foldl lf []
variable{l:List (List Int)}{i:Nat}
theorem yO (h:i<l.length):iI (l.take (i+1))=lf (iI (l.take i)) (l.getD i default):=by unfold iI;rw[take_succ h,abB];rfl
variable{out x:List Int}
theorem IN (h:x.length=0):lf out x=out++x:=by unfold lf;rw[if_pos h,aaD h,aaP]
theorem IP (h:out.length=0):lf out x=out++x:=by
 have:out=[]:=aaD h;subst this;unfold lf;split
 ·next h=>rw[aaD h];rfl
 ·rfl
theorem IQ (h:x.length≠0)(h1:out.length≠0):lf out x=out++[63]++x:=by unfold lf;rw[if_neg h,if_neg h1]
theorem KK (out x:List Int):(lf out x).length≤out.length+1+x.length:=by
 unfold lf;split
 ·omega
 ·split
  ·omega
  ·simp only[aar,aam,aat];omega
theorem KL {B:Nat}(h:∀x∈l,x.length≤B):(iI l).length≤l.length*(B+1):=by
 have key:∀(l:List (List Int))(o:List Int),(∀x∈l,x.length≤B)→(l.foldl lf o).length≤o.length+l.length*(B+1):=by
   intro l
   induction l with
   | nil=>intro o _;simp
   | cons x l ih =>
     intro o h;rw[ab4];have h1:=ih (lf o x) fun y hy=>h y (aav _ hy)
     have h2:=KK o x;have h3:=h x aaq;rw[aam,acg];omega
 have:=key l [] h;show(l.foldl lf []).length≤_;rw[aat,abg] at this;exact this
def wK (w:List Int)(l:List aF):List Int:=l.foldl (fun w r=>bp r w) w
def bw (w:List Int):List aF→Bool
 | []=>true
 | r :: l=>decide ((bp r w).length≤64)&&bw (bp r w) l
def nK (w:List Int):List aF→List (List UInt8)
 | []=>[]
 | r :: l=>(if bp r w=w then[] else[r.name])++nK (bp r w) l
variable{w:List Int}
theorem fD {l:List aF}(h:i<l.length):wK w (l.take (i+1))=bp (l.getD i default) (wK w (l.take i)):=by unfold wK;rw[take_succ h,abB];rfl
theorem Ol:∀ (l m:List aF)(w:List Int),nK w (l++m)=nK w l++nK (wK w l) m
 | [],m,w=>rfl
 | r :: l, m, w => by
   show(if bp r w=w then[] else[r.name])++nK (bp r w) (l++m)=((if bp r w=w then[] else[r.name])++nK (bp r w) l)++_;rw[Ol l m,aaY];rfl
theorem tM {l:List aF}(h:i<l.length):nK w (l.take (i+1))=nK w (l.take i)++(if bp (l.getD i default) (wK w (l.take i))=wK w (l.take i) then[] else[(l.getD i default).name]):=by rw[take_succ h,Ol];show _++((if _ then[] else[_])++[])=_;rw[aaP]
theorem sC:∀ (l m:List aF)(w:List Int),bw w (l++m)=(bw w l&&bw (wK w l) m)
 | [],m,w=>rfl
 | r :: l, m, w => by
   show(decide _&&bw (bp r w) (l++m))=((decide _&&bw (bp r w) l)&&_);rw[sC l m,Bool.and_assoc];rfl
theorem nj {l:List aF}(h:i<l.length):bw w (l.take (i+1))=(bw w (l.take i)&&decide ((wK w (l.take (i+1))).length≤64)):=by rw[fD h,take_succ h,sC];show(_&&(decide _&&true))=_;rw[Bool.and_true]
theorem Bq {l:List aF}(h:i<l.length)(h2:64<(wK w (l.take (i+1))).length):bw w l=false:=by have e:l=l.take (i+1)++l.drop (i+1):=(abn _ _).symm;rw[e,sC,nj h,decide_eq_false (show ¬(wK w (l.take (i+1))).length≤64 by omega),abG,abD]
theorem o8:∀ (l:List aF)(w:List Int),(nK w l).length≤l.length
 | [],w=>aak _
 | r :: l, w => by
   have:=o8 l (bp r w);unfold nK;rw[aar,aam];split<;>simp<;>omega
def gX (w:List Int):List Int:=w.filter fun x=>decide (x≠63)
theorem lZ (h:i<w.length):gX (w.take (i+1))=gX (w.take i)++(if w.getD i default=63 then[] else[w.getD i default]):=by
 unfold gX;rw[take_succ h,abq,abb,abV];by_cases q:w.getD i default=63
 ·rw[if_pos q,if_neg (by simpa using q)]
 ·rw[if_neg q,if_pos (by simpa using q)]
theorem tN (w:List Int):(gX w).length≤w.length:=abx _ _
structure QY (r:aF):Prop where
 pairs:r.pairs.length≤1000
 dst:∀p∈r.pairs,p.dst.length≤1000
 left:r.left.size≤200
 right:r.right.size≤100
theorem o9 {r:aF}:(bp r w).length≤3*w.length:=by
 by_cases h:bI r=true∧fL w=true
 ·rw[yK h rfl];exact(E6 h.1 _).1
 ·rw[Bp (by cases h1:bI r<;>cases h2:fL w<;>simp_all)];omega
theorem WD {x:Int}(h:x<0):(!KJ x)=true:=by unfold KJ;rw[decide_eq_false acK];rfl
theorem WE {x:Int}(h:0≤x):(!KJ x)=decide (60≤x):=by unfold KJ;rw[decide_eq_true h,abm,←decide_not];exact decide_eq_decide.2 acK
theorem IS (h:x.length=0):lf out x=out:=if_pos h
theorem IT (hl:l.length≤32)(hB:∀x∈l,x.length≤1048576)(i:Nat):(iI (l.take i)).length≤32*1048577:=by
 have h1:=KL (l:=l.take i) (B:=1048576) (fun x hx=>hB x (abv hx));have h2:(l.take i).length≤32:=by rw[aau];omega
 exact aaO h1 (abl _ h2)
end Go.Wf
namespace Go.Proofs.YtlapahnodhmcpaaGreat
open Go.Am Go.Wb Go.Wc Go.Wf Go.We
abbrev WG:=dF 2 Tryz.func225
theorem zT {x:Int}:ak Tryz.prog 225 [int x] (.p (bool (!KJ x))):=by
 refine cF WG fun w0 M0 aa=>?_
 refine pW [4010] [0,5] [] ?_ ?_<;>intro h1';refine wZ [8007] ?_;rotate_left;refine wZ [8007] ?_;rotate_left
 all_goals
  first|(rw[WD acK];first|done|rfl)|(rw[WE acK];first|done|rfl)
abbrev WH:=dF 2 Tryz.func182
variable{w:List Int}
theorem tO (hw:w.length≤1099511627776):ak Tryz.prog 182 [ints w] (.p (bool (gE w))):=by
 refine cF WH fun w0 M0 aa=>?_
 refine c4 [8] [3] [] ?_;refine oC J J J J (Be (p:=fun x=>!KJ x) acK (fun x hx=>zT)) ?_;refine wZ [8005] ?_;rw[E9]
abbrev WI:=dF 2 Tryz.func177
theorem ny (hw:w.length≤1099511627776):ak Tryz.prog 177 [ints w] (.p (bool (gE w))):=by
 refine cF WI fun w0 M0 aa=>?_
 refine c4 [12] [0,3] [] ?_;refine lr (fun zl zo zm zs=>∃i:Nat,zm=w.length-i∧(i≤w.length)∧(∀j,j<i→KJ (w.getD j default)=true)∧zs=eJ 22 [(3,vvw (int i))] zl [] zo) ?_ ?_;exact⟨_,0,rfl,aan _,fun j hj=>absurd hj acK,rfl⟩;rintro zm zs ⟨i,rfl,aY,aq,rfl⟩;refine wS [5,3003] [0,3,7] [] ?_ ?_<;>intro h1;refine wS [9,4003] [0,3,15] [] ?_ ?_<;>intro h2';refine wZ [8020] ?_;rotate_left;refine wS [2,3005] [0,3,21] [] ?_ ?_<;>intro h3;refine wZ [8012] ?_;rotate_left;refine wA [6,9002] [0,3] [] ?_;exact⟨_,⟨i+1,rfl,acK,bX aq (by unfold KJ;simp_all;first|done|omega),rfl⟩,acK⟩;refine wZ [8012] ?_;rotate_left
 all_goals
  show _=RV.p (Am.bool (w.all KJ));first|(rw[Bc (i:=i) acK (by unfold KJ;simp_all;first|done|omega)];done)|(rw[uZ (fun j hj=>aq j acK)];done)
abbrev WJ:=dF 2 Tryz.func142
theorem yP (hw:w.length≤1099511627776):ak Tryz.prog 142 [ints w] (.p (bool (u2 w))):=by
 refine cF WJ fun w0 M0 aa=>?_
 refine pW [8,4002] [0,6] [] ?_ ?_<;>intro h1';refine wA [1] [6,7] [] ?_;refine oC J J J J (tO acK) ?_;refine wZ [8005] ?_;rotate_left;refine wZ [8007] ?_;rotate_left
 all_goals
  unfold u2;simp_all;first|done|omega
abbrev WK:=dF 4 Tryz.func118
theorem KM {c:iy}(hw:w.length≤1099511627776)(hc:c.fits.size≤1048576)(hS:(dv c.fits).size≤10000):ak Tryz.prog 118 [bL c,ints w] (.p (bool (jd c w))):=by
 refine cF WK fun w0 M0 aa=>?_
 refine pW [2,4009] [1,2,8] [] ?_ ?_<;>intro h1';refine wS [4005] [1,2,13] [] ?_ ?_<;>intro h2';refine wS [1,4005] [1,2,20] [] ?_ ?_<;>intro h3';refine wS [1,4003] [1,2,25] [] ?_ ?_<;>intro h4';refine wA [1] [1,2,25,26] [] ?_;refine oC J J J J (tO acK) ?_;refine wS [4002] [1,2,29] [] ?_ ?_<;>intro h5';refine wA [3] [29,31,32] [] ?_;refine oC J J J J (EW (S:=10000) (N:=24) acK hS acK acM acM) ?_;refine wZ [8005] ?_;rotate_left;refine wZ [8009] ?_;rotate_left;refine wZ [8013] ?_;rotate_left;refine wZ [8018] ?_;rotate_left;refine wZ [8025] ?_;rotate_left;refine wZ [8030] ?_;rotate_left
 all_goals
  first|(unfold jd;simp_all;first|done|omega)|(unfold jd;simp_all)
abbrev WL:=dF 4 Tryz.func114
theorem Hk {c:iy}(hw:w.length≤1099511627776)(hc:c.fits.size≤1048576):ak Tryz.prog 114 [bL c,ints w] (.p (bool (jd c w))):=by
 refine cF WL fun w0 M0 aa=>?_
 refine pW [2,4009] [1,2,8] [] ?_ ?_<;>intro h1';refine wS [4005] [1,2,13] [] ?_ ?_<;>intro h2';refine wS [1,4005] [1,2,20] [] ?_ ?_<;>intro h3';refine wS [1,4003] [1,2,25] [] ?_ ?_<;>intro h4';refine wA [1] [1,2,25,26] [] ?_;refine oC J J J J (ny acK) ?_;refine wS [4002] [1,2,29] [] ?_ ?_<;>intro h5';refine wA [3] [29,31,32] [] ?_;refine oC J J J J (by have h:=qn (r:=c.fits) (w:=w) acK acK;rw[←qo] at h;exact h) ?_;refine wZ [8005] ?_;rotate_left;refine wZ [8009] ?_;rotate_left;refine wZ [8013] ?_;rotate_left;refine wZ [8018] ?_;rotate_left;refine wZ [8025] ?_;rotate_left;refine wZ [8030] ?_;rotate_left
 all_goals
  first|(unfold jd;simp_all;first|done|omega)|(unfold jd;simp_all)
abbrev WM:=dF 4 Tryz.func181
theorem rU {a b:List Int}(ha:a.length≤1099511627776)(hb:b.length≤1099511627776):ak Tryz.prog 181 [ints a,ints b] (.p (bool (decide (a=b)))):=by
 refine cF WM fun w0 M0 aa=>?_
 refine pW [9,1,3003] [0,1,10] [] ?_ ?_<;>intro h1;refine wZ [8008] ?_;rw[decide_eq_false];intro he;subst he;exact h1 rfl;refine wA [10] [0,1,5] [] ?_;refine lr (fun zl zo zm zs=>∃k:Nat,zm=a.length-k∧(k≤a.length)∧(a.take k=b.take k)∧zs=eJ 26 [(5,vvw (int k))] zl [] zo) ?_ ?_;exact⟨_,0,rfl,aan _,rfl,rfl⟩;rintro zm zs ⟨k,rfl,aY,aq,rfl⟩;refine wS [5,3003] [0,1,5,14] [] ?_ ?_<;>intro h2;refine wS [2006,6002,6003,3004] [0,1,5,25] [] ?_ ?_<;>intro h3;refine wZ [8012] ?_;rw[decide_eq_false];intro he;subst he;exact h3 rfl;refine wA [6,9002] [0,1,5] [] ?_;exact⟨_,⟨k+1,rfl,acK,by rw[take_succ acK,take_succ acK,aq,h3],rfl⟩,acK⟩;refine wZ [8012] ?_;rw[decide_eq_true];have h:=aq;rw[aaB acK,aaB acK] at h;exact h
abbrev YL:=dF 4 Tryz.func59
theorem qu {a b:List Int}(ha:a.length≤1099511627776)(hb:b.length≤1099511627776):ak Tryz.prog 59 [ints a,ints b] (.p (bool (decide (a=b)))):=by
 refine cF YL fun w0 M0 aa=>?_
 refine pW [9,1,3003] [0,1,10] [] ?_ ?_<;>intro h1;refine wZ [8008] ?_;rw[decide_eq_false];intro he;subst he;exact h1 rfl;refine wA [7,4] [0,1,12,13] [] ?_;refine lr (fun zl zo zm zs=>∃k:Nat,zm=a.length-k∧(k≤a.length)∧(a.take k=b.take k)∧zs=eJ 26 [(12,vvw (int a.length)),(13,vvw (int k))] zl [] zo) ?_ ?_;exact⟨_,0,rfl,aan _,rfl,rfl⟩;rintro zm zs ⟨k,rfl,aY,aq,rfl⟩;refine wS [3006] [0,1,12,13,14] [] ?_ ?_<;>intro h2;refine wS [2012,6002,6003,3004] [0,1,12,13,24] [] ?_ ?_<;>intro h3;refine wZ [8012] ?_;rw[decide_eq_false];intro he;subst he;exact h3 rfl;refine wA [5,9002] [0,1,12,13] [] ?_;exact⟨_,⟨k+1,rfl,acK,by rw[take_succ acK,take_succ acK,aq,h3],rfl⟩,acK⟩;refine wZ [8012] ?_;rw[decide_eq_true];have h:=aq;rw[aaB acK,aaB acK] at h;exact h
abbrev WN:=dF 2 Tryz.func121
theorem KN {l:List (List Int)}(hl:l.length≤32)(hB:∀x∈l,x.length≤1048576):ak Tryz.prog 121 [ly l] (.fresh 3 ((iI l).map int)):=by
 refine cF WN fun w0 M0 aa=>?_
 refine c4 [1007,6,4] [3,6,7,8] [3] ?_;refine lr (fun zl zo zm zs=>∃i:Nat,zm=l.length-i∧(i≤l.length)∧zs=eJ 28 [(3,.own 3),(6,vvz (ly l)),(7,vvw (int l.length)),(8,vvw (int i))] zl [(3,.arr 3 ((iI (l.take i)).map int))] zo) ?_ ?_;exact⟨_,0,rfl,aan _,rfl⟩;rintro zm zs ⟨i,rfl,aY,rfl⟩;have hlen:(iI (l.take i)).length≤32*1048577:=IT hl hB i;have hx:=fun h:i<l.length=>hB _ (aM h)
 refine wS [3006] [3,6,7,8,9] [3] ?_ ?_<;>intro h1;refine wS [7,8,4002] [3,5,6,7,8,15] [3] ?_ ?_<;>intro h2';refine wS [1,3004] [3,5,6,7,8,19] [3] ?_ ?_<;>intro h3;refine wA [3,1000,1006,5,9002] [3,6,7,8] [3] ?_;rotate_left;refine wA [1006,5,9002] [3,6,7,8] [3] ?_;rotate_left;refine wA [1012,5,9002] [3,6,7,8] [3] ?_;rotate_left;refine wZ [8013] ?_;rw[aaB acK]
 all_goals
  exact⟨_,⟨i+1,rfl,acK,by rw[yO acK];first|(rw[IQ acK acK,aas,aas];rfl)|(rw[IP acK,aas];rfl)|(rw[IN acK,aas];rfl)|(rw[IS acK];rfl)⟩,acK⟩
abbrev WO:=dF 2 Tryz.func116
theorem CK {l:List (List Int)}(hl:l.length≤32)(hB:∀x∈l,x.length≤1048576):ak Tryz.prog 116 [ly l] (.fresh 3 ((iI l).map int)):=by
 refine cF WO fun w0 M0 aa=>?_
 refine c4 [1007,9] [0,3,4] [3] ?_;refine lr (fun zl zo zm zs=>∃i:Nat,zm=l.length-i∧(i≤l.length)∧zs=eJ 30 [(3,.own 3),(4,vvw (int i))] zl [(3,.arr 3 ((iI (l.take i)).map int))] zo) ?_ ?_;exact⟨_,0,rfl,aan _,rfl⟩;rintro zm zs ⟨i,rfl,aY,rfl⟩;have hlen:(iI (l.take i)).length≤32*1048577:=IT hl hB i;have hx:=fun h:i<l.length=>hB _ (aM h)
 refine wS [5,3003] [0,3,4,8] [3] ?_ ?_<;>intro h1;refine wS [9,1,3003] [0,3,4,16] [3] ?_ ?_<;>intro h2;refine wS [5,3003] [0,3,4,19] [3] ?_ ?_<;>intro h3;refine wA [3,1000,7,1001,6,9002] [0,3,4] [3] ?_;rotate_left;refine wA [7,1001,6,9002] [0,3,4] [3] ?_;rotate_left;refine wA [6,9002] [0,3,4] [3] ?_;rotate_left;refine wZ [8013] ?_;rw[aaB acK]
 all_goals
  exact⟨_,⟨i+1,rfl,acK,by rw[yO acK];first|(rw[IQ acK acK,aas,aas];rfl)|(rw[IP acK,aas];rfl)|(rw[IN acK,aas];rfl)|(rw[IS acK];rfl)⟩,acK⟩
end Go.Proofs.YtlapahnodhmcpaaGreat
namespace Go.Wf
open Go.Am Go.Wb Go.Wc
def lB (w:List Int):List aF→List Int×List (List UInt8)×Bool
 | []=>(w,[],false)
 | r :: l => if (bp r w).length ≤ 64 then ((lB (bp r w) l).1, (if bp r w = w then [] else [r.name]) ++ (lB (bp r w) l).2.1, (lB (bp r w) l).2.2)
   else(bp r w,(if bp r w=w then[] else[r.name]),true)
theorem n4:∀ {l:List aF}{w:List Int},bw w l=true→lB w l=(wK w l,nK w l,false)
 | [],w,_=>rfl
 | r :: l, w, h => by
   unfold bw at h;rw[aax,decide_eq_true_eq] at h;unfold lB;rw[if_pos h.1,n4 h.2];rfl
theorem yQ (r:aF)(l:List aF)(w:List Int):lB w (r :: l)=if(bp r w).length≤64 then((lB (bp r w) l).1,(if bp r w=w then[] else[r.name])++(lB (bp r w) l).2.1,(lB (bp r w) l).2.2)
 else(bp r w,(if bp r w=w then[] else[r.name]),true):=rfl
theorem IU:∀ {l m:List aF}{w:List Int},bw w l=true→lB w (l++m)=((lB (wK w l) m).1,nK w l++(lB (wK w l) m).2.1,(lB (wK w l) m).2.2)
 | [],m,w,_=>rfl
 | r :: l, m, w, h => by
   unfold bw at h;rw[aax,decide_eq_true_eq] at h;show lB w (r :: (l++m))=((lB (wK (bp r w) l) m).1,((if bp r w=w then[] else[r.name])++nK (bp r w) l)++(lB (wK (bp r w) l) m).2.1,(lB (wK (bp r w) l) m).2.2);rw[yQ,if_pos h.1,IU h.2,aaY]
variable{w:List Int}{l:List aF}
theorem T4 {i:Nat}(h:bw w (l.take i)=true)(hi:l.length≤i):lB w l=(wK w (l.take i),nK w (l.take i),false):=by rw[aaB hi] at h ⊢;exact n4 h
theorem QZ {i:Nat}(hi:i<l.length)(h:bw w (l.take i)=true)(h2:64<(wK w (l.take (i+1))).length):lB w l=(wK w (l.take (i+1)),nK w (l.take (i+1)),true):=by
 have e:l=l.take i++(l.getD i default :: l.drop (i+1)):=by rw[eh hi,←abF hi,abn]
 rw[fD hi] at h2
 conv=>lhs;rw[e]
 rw[IU h,fD hi,tM hi];have:lB (wK w (l.take i)) (l.getD i default :: l.drop (i+1))=(bp (l.getD i default) (wK w (l.take i)),(if bp (l.getD i default) (wK w (l.take i))=wK w (l.take i) then[] else[(l.getD i default).name]),true):=by
  rw[yQ,if_neg acK]
 rw[this]
theorem tP :(lB w l).2.2=!bw w l:=by
 induction l generalizing w with
 | nil=>rfl
 | cons r l ih =>
   unfold lB bw;by_cases h:(bp r w).length≤64
   · rw[if_pos h,decide_eq_true h,abm];exact ih
   · rw[if_neg h,decide_eq_false h];rfl
theorem IV :∀{w:List Int},w.length≤192→(l≠[]→w.length≤64)→(lB w l).1.length≤192:=by
 induction l with
 | nil=>intro w h _;exact h
 | cons r l ih =>
   intro w h h1;have h2:=h1 (by simp);have h3:=o9 (r:=r) (w:=w);unfold lB;by_cases q:(bp r w).length≤64
   · rw[if_pos q];exact ih acK fun _=>q
   · rw[if_neg q];show(bp r w).length≤192;omega
end Go.Wf
namespace Go.Proofs.YtlapahnodhmcpaaGreat
open Go.Am Go.Wb Go.Wc Go.Wf Go.We
theorem Sx:RE Tryz.prog 115 Tryz.f115.ntmps 4 5 6 (Tryz.f115.body.getD .skip):=⟨Tryz.f115,Tryz.func115,rfl,rfl,rfl,acL⟩
variable{w:List Int}
theorem Ps {l:List aF}(hw:w.length≤64)(hl:l.length≤1048576)(hR:∀r∈l,QY r) :
   aU Tryz.prog 115 [ints w,.sl (l.map bn)] (.p (.tup [ints (if bw w l=true then wK w l else[]),strs (if bw w l=true then nK w l else[]),bool (bw w l)])):=by
 refine pV Sx (aah J) fun w0 M0 aa=>?_
 refine c4 [1009,9] [0,1,7,8] [7] ?_;refine lr (fun zl zo zm zs=>∃i:Nat,zm=l.length-i∧(i≤l.length)∧(bw w (l.take i)=true)∧((wK w (l.take i)).length≤64)∧zs=eJ 40 [(0,vvw (ints (wK w (l.take i)))),(7,.own 7),(8,vvw (int i))] zl [(7,.arr 9 ((nK w (l.take i)).map ah))] zo) ?_ ?_;exact⟨_,0,rfl,aan _,rfl,hw,rfl⟩;rintro zm zs ⟨i,rfl,aY,aq,cY,rfl⟩;have Om:=fun h:i<l.length=>hR _ (aM h)
 have hn:(nK w (l.take i)).length≤l.length:=aaO (o8 _ _) (by rw[aau];omega);refine wS [5,3003] [0,1,7,8,13] [7] ?_ ?_<;>intro h1;refine wA [9,2] [0,1,7,8,19,20] [7] ?_;refine oC J J J J (by have h:=vU (r:=l.getD i default) (w:=(wK w (l.take i))) acK (by have:=(Om acK).pairs;omega) (fun p hp=>aaO ((Om acK).dst p hp) acM) (by have:=(Om acK).left;omega) (by have:=(Om acK).right;omega);rw[←EM] at h;exact h) ?_;refine wA [8] [1,7,8,9,22,23] [7] ?_;refine oC J J J J (rU (a:=bp (l.getD i default) (wK w (l.take i))) (b:=(wK w (l.take i))) (by have:=o9 (r:=l.getD i default) (w:=(wK w (l.take i)));omega) acK) ?_;refine wS [3003] [1,7,8,9,25] [7] ?_ ?_<;>intro h2;refine wS [5,2,1000,12,3003] [0,1,7,8,37] [7] ?_ ?_<;>intro h3;refine wZ [14] ?_;refine gx J J J ?_;rotate_left;refine wA [6,9002] [0,1,7,8] [7] ?_;rotate_left;refine wS [12,3003] [0,1,7,8,37] [7] ?_ ?_<;>intro h4;refine wZ [14] ?_;refine gx J J J ?_;rotate_left;refine wA [6,9002] [0,1,7,8] [7] ?_;rotate_left;refine wZ [16] ?_;refine gx J J J ?_;rotate_left
 all_goals first
  | (
    first
      | (rw[Bq (i:=i) acK (by rw[fD acK];omega)];exact⟨rfl,rfl,rfl⟩)
      | (rw[aaB acK] at *;rw[show bw w l=true by assumption];exact⟨rfl,rfl,rfl⟩);done)
  | (
    exact⟨_,⟨i+1,rfl,acK,(by rw[nj acK,aq,fD acK,abm];exact decide_eq_true acK),(by rw[fD acK];omega),by rw[fD acK,tM acK];first|(rw[if_pos acN,aaP];rfl)|(rw[if_neg acN,aas];rfl)⟩,acK⟩;done)
theorem Fa {r:aF}(h:QY r)(hw:w.length≤64):ak Tryz.prog 120 [bn r,ints w] (.fresh 3 ((bp r w).map int)):=by
 have h1:=h.left;have h2:=h.right;have h3:=h.pairs;have e1:=mo false (fM r.left);have e2:=yI r.left;have e3:=mo false (fM (eo r.right));have e4:=yI (eo r.right);have e5:=E2 r.right;have s1:(dv (fM r.left)).size≤600:=by unfold dv;split<;>first|omega|decide
 have s2:(dv (fM (eo r.right))).size≤600:=by unfold dv;split<;>first|omega|decide
 refine Hg (S:=600) acK acK (fun p hp=>aaO (h.dst p hp) acM) acK acK s1 s2 ?_;have hm:2*600*(w.length+1+2)+66≤80466:=acK;exact aaO (Nat.mul_le_mul hm hm) acM
abbrev WQ:=dF 6 Tryz.func119
theorem yS {l:List aF}{acc:List (List UInt8)}{cn:List UInt8}(hw:w.length≤64)(hl:l.length≤1048576)(hR:∀r∈l,QY r)(ha:acc.length≤1048576) :
   lz Tryz.prog 119 [vvw (ints w),vvz (.sl (l.map bn)),.pbox 1000000 0,.pbox 1000001 0]
     [(11,.arr 9 (acc.map ah)),(1000000,.box 64 [vvw (ah cn),vvv,vvv,.own 11]),(1000001,.box 4 [vvw (bool false)])]
     (vvw (ints (lB w l).1)) [(11,.arr 9 ((acc++(lB w l).2.1).map ah)),(1000000,.box 64 [vvw (ah cn),vvv,vvv,.own 11]),(1000001,.box 4 [vvw (bool (lB w l).2.2)])]:=by
 refine gK WQ (aah J) fun w0 M0 aa=>?_
 refine c4 [9,4] [0,2,3,10,11,12] [11,1000000,1000001] ?_;refine lp (fun zm zs=>∃i:Nat,zm=l.length-i∧(i≤l.length)∧(bw w (l.take i)=true)∧((wK w (l.take i)).length≤64)∧zs=⟨40,[(0,vvw (ints (wK w (l.take i)))),(2,.pbox 1000000 0),(3,.pbox 1000001 0),(10,vvz (.sl (l.map bn))),(11,vvw (int l.length)),(12,vvw (int i))],[(11,.arr 9 ((acc++nK w (l.take i)).map ah)),(1000000,.box 64 [vvw (ah cn),vvv,vvv,.own 11]),(1000001,.box 4 [vvw (bool false)])]⟩) ?_ ?_;exact⟨_,0,rfl,aan _,rfl,hw,by rw[show nK w (l.take 0)=[] from J,aaP];rfl⟩;rintro zm zs ⟨i,rfl,aY,aq,cY,rfl⟩;have Om:=fun h:i<l.length=>hR _ (aM h)
 have hn:(nK w (l.take i)).length≤l.length:=aaO (o8 _ _) (by rw[aau];omega);refine wS [3006] [0,2,3,10,11,12,13] [11,1000000,1000001] ?_ ?_<;>intro h1;refine wA [7,9] [0,2,3,8,10,11,12,16,17] [8,11,1000000,1000001] ?_;refine oC J J J J (Fa (r:=l.getD i default) (w:=(wK w (l.take i))) (Om acK) acK) ?_;refine wA [8] [2,3,8,9,10,11,12,19,20] [8,11,1000000,1000001] ?_;refine oC J J J J (qu (a:=bp (l.getD i default) (wK w (l.take i))) (b:=(wK w (l.take i))) (by have:=o9 (r:=l.getD i default) (w:=(wK w (l.take i)));omega) acK) ?_;refine wS [3003] [2,3,8,9,10,11,12,22] [8,11,1000000,1000001] ?_ ?_<;>intro h2;refine wA [6,1000,12] [0,2,3,10,11,12] [11,1000000,1000001] ?_;refine oP J (bj (b':=false) (ae J Sc J J J) (rfl)) ?_;refine wS [2,3010] [0,2,3,10,11,12,37] [11,1000000,1000001] ?_ ?_<;>intro h3;refine wZ [14] ?_;refine ew (o1:=[(11,_),(1000000,_),(1000001,_)]) J ⟨rfl,rfl,rfl,trivial⟩ ?_;rotate_left;refine wA [5,9002] [0,2,3,10,11,12] [11,1000000,1000001] ?_;rotate_left;refine wA [11] [0,2,3,10,11,12] [11,1000000,1000001] ?_;refine oP J (bj (b':=false) (ae J Sc J J J) (rfl)) ?_;refine wS [2,3010] [0,2,3,10,11,12,37] [11,1000000,1000001] ?_ ?_<;>intro h4;refine wZ [14] ?_;refine ew (o1:=[(11,_),(1000000,_),(1000001,_)]) J ⟨rfl,rfl,rfl,trivial⟩ ?_;rotate_left;refine wA [5,9002] [0,2,3,10,11,12] [11,1000000,1000001] ?_;rotate_left;refine wZ [13] ?_;refine ew (o1:=[(11,_),(1000000,_),(1000001,_)]) J ⟨rfl,rfl,rfl,trivial⟩ ?_;rotate_left
 all_goals first
  | (
    first
      | (rw[T4 (l:=l) aq acK];exact⟨rfl,rfl⟩)
      | (rw[QZ (l:=l) (i:=i) acK aq (by rw[fD acK];omega),fD acK,tM acK,decide_eq_true (p:=(64:Int)<((bp (l.getD i default) (wK w (l.take i))).length:Int)) acK];first|(rw[if_pos acN,aaP];exact⟨rfl,rfl⟩)|(rw[if_neg acN,←aaY,aas (l₁:=acc++_)];exact⟨rfl,rfl⟩));done)
  | (
    exact⟨_,⟨i+1,rfl,acK,(by rw[nj acK,aq,fD acK,abm];exact decide_eq_true acK),(by rw[fD acK];omega),by rw[fD acK,tM acK,decide_eq_false (p:=(64:Int)<((bp (l.getD i default) (wK w (l.take i))).length:Int)) acK];first|(rw[if_pos acN,aaP];rfl)|(rw[if_neg acN,←aaY,aas (l₁:=acc++_)];rfl)⟩,acK⟩;done)
end Go.Proofs.YtlapahnodhmcpaaGreat
namespace Go.Wf
open Go.Am Go.Wb Go.Wc
structure YM (x:gU):Prop where
 pre:x.pre.length≤1000
 suf:x.suf.length≤1000
 change:x.change.length≤1000
structure XD (c:iy):Prop where
 cells:c.cells.length≤1000
 cell:∀x∈c.cells,YM x
 fits:c.fits.size≤1048576
 sim:(dv c.fits).size≤10000
structure pF (g:aC):Prop where
 nrules:g.rules.length≤1000
 rules:∀r∈g.rules,QY r
 nclasses:g.classes.length≤1000
 classes:∀c∈g.classes,XD c
 order:g.order.length≤1000
theorem On:XD ER:=⟨by decide,(fun x hx=>by cases hx),by decide,by decide +kernel⟩
theorem Oo:YM IH:=⟨by decide,by decide,by decide⟩
theorem yT {α:Type}{f:α→List UInt8}{l:List α}{n:List UInt8}{x:α}(h:qq f l n=some x):x∈l:=abT h
def bh (g:aC)(cl:List UInt8):iy:=(fR g cl).getD ER
def bP (g:aC)(cl cn:List UInt8):gU:=(ng (bh g cl) cn).getD IH
variable{g:aC}
theorem lq (h:pF g)(cl:List UInt8):XD (bh g cl):=by
 unfold bh;cases hc:fR g cl with
 | none=>exact On
 | some c=>exact h.classes c (yT hc)
theorem jx (h:pF g)(cl cn:List UInt8):YM (bP g cl cn):=by
 unfold bP;cases hc:ng (bh g cl) cn with
 | none=>exact Oo
 | some c=>exact(lq h cl).cell c (yT hc)
theorem gV {l:List (List UInt8)}{r:aF}(h:r∈bq g l):r∈g.rules:=by
 unfold bq at h;by_cases ho:nh g l=true
 ·rw[if_pos ho] at h;unfold wv at h;obtain⟨n,hn,rfl⟩:=aaG.1 h;have:=aaF.1 ho n hn;obtain⟨x,hx⟩:=Option.isSome_iff_exists.1 this;rw[hx];exact yT hx
 ·rw[if_neg ho] at h;cases h
theorem kQ {l:List (List UInt8)}:(bq g l).length≤l.length:=by
 unfold bq;split
 ·rw[yC];exact aak _
 ·exact aan _
def j7 (g:aC)(cl cn:List UInt8):Bool:=decide (0≤(bh g cl).strip)&&decide ((bh g cl).strip≤24)&&u2 (bP g cl cn).pre&&u2 (bP g cl cn).suf&&aR (bh g cl).fits &&
 (bq g (bP g cl cn).change).all bI&&(bq g g.order).all bI
def iP (g:aC)(cl cn:List UInt8):Bool:=(fR g cl).isSome&&(ng (bh g cl) cn).isSome&&nh g (bP g cl cn).change&&nh g g.order
def gY (g:aC)(cl cn:List UInt8):Int:=if iP g cl cn=false then 6 else if j7 g cl cn=false then 1 else 0
def CL (c:iy)(x:gU)(ch od:List aF):List AV:=o6 c++EO x++[.sl (ch.map bn),.sl (od.map bn)]
def Sy:AV:=.agg (CL ER IH [] [])
def YN (g:aC)(cl cn:List UInt8):AV:=.agg (CL (bh g cl) (bP g cl cn) (bq g (bP g cl cn).change) (bq g g.order))
variable{cl cn:List UInt8}
theorem vY (h:iP g cl cn=false):gY g cl cn=6:=if_pos h
theorem IW (h:iP g cl cn=true)(h2:j7 g cl cn=false):gY g cl cn=1:=by unfold gY;rw[if_neg (by rw[h];decide),if_pos h2]
theorem Sz (h:iP g cl cn=true)(h2:j7 g cl cn=true):gY g cl cn=0:=by unfold gY;rw[if_neg (by rw[h];decide),if_neg (by rw[h2];decide)]
theorem T5 (h:0≤eB (fun x:gU=>decide (x.name=cn)) (bh g cl).cells) :
  (bh g cl).cells.getD (eB (fun x:gU=>decide (x.name=cn)) (bh g cl).cells).toNat default=bP g cl cn∧(ng (bh g cl) cn).isSome=true:=by
 have:=ri (f:=fun x:gU=>x.name) (l:=(bh g cl).cells) (n:=cn);have h1:ng (bh g cl) cn=_:=this.1 h;unfold bP;rw[h1];exact⟨rfl,rfl⟩
theorem T6 (h:eB (fun x:gU=>decide (x.name=cn)) (bh g cl).cells<0):(ng (bh g cl) cn).isSome=false:=by have:=ri (f:=fun x:gU=>x.name) (l:=(bh g cl).cells) (n:=cn);have h1:ng (bh g cl) cn=_:=this.2 h;rw[h1];rfl
theorem T7 (h:(bq g (bP g cl cn).change).all bI=false):j7 g cl cn=false:=by unfold j7;rw[h,abG];rfl
theorem T8 (h:(bq g g.order).all bI=false):j7 g cl cn=false:=by unfold j7;rw[h,abG]
theorem SA (h:(fR g cl).isSome=false):iP g cl cn=false:=by unfold iP;rw[h];rfl
theorem WR (h:eB (fun x:gU=>decide (x.name=cn)) (bh g cl).cells<0):iP g cl cn=false:=by unfold iP;rw[T6 h,abG];rfl
theorem SB (h:nh g (bP g cl cn).change=false):iP g cl cn=false:=by unfold iP;rw[h,abG];rfl
theorem SC (h:nh g g.order=false):iP g cl cn=false:=by unfold iP;rw[h,abG]
theorem Br (h1:(fR g cl).isSome=true)(h2:(ng (bh g cl) cn).isSome=true)(h3:nh g (bP g cl cn).change=true)(h4:nh g g.order=true):iP g cl cn=true:=by unfold iP;rw[h1,h2,h3,h4];rfl
end Go.Wf
