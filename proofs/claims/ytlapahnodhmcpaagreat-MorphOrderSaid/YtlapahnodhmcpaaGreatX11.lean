/-
  Part of the proof.
-/
import Derived.Test.YtlapahnodhmcpaaGreatX10
set_option linter.unusedVariables false
set_option linter.unusedSectionVars false
set_option linter.unusedSimpArgs false
set_option maxRecDepth 100000
set_option maxHeartbeats 40000000
namespace Go.Proofs.YtlapahnodhmcpaaGreat
open Go.Am Go.Wb Go.Wc Go.Wf
theorem Zu:B2 Tryz.prog 78 Tryz.f78.ntmps 4 97 6 5 (Tryz.f78.body.getD .skip):=⟨Tryz.f78,Tryz.func78,rfl,rfl,rfl,adi,Un,rm⟩
variable{g:aA}{n:List UInt8}
theorem Fk (hl:g.classes.length≤1099511627776):aV Tryz.prog 78 [cD g,ak n] (.p (.tup [bj ((fR g n).getD E5),bool (fR g n).isSome])):=by
 refine dA Zu (aaz J) fun w0 M0 ae=>?_
 refine db [2,11] [1,2,4,6] [4] ?_;refine lr (fun zl zo zm zs=>∃i:Nat,zm=g.classes.length-i∧(i≤g.classes.length)∧(∀j,j<i→decide ((g.classes.getD j default).name=n)=false)∧zs=eV 28 [(6,vvw (int i))] zl [] zo) ?_ ?_;exact⟨_,0,rfl,aaG _,fun j hj=>absurd hj adh,rfl⟩;rintro zm zs ⟨i,rfl,aY,ax,rfl⟩;refine wS [6,3003] [1,2,4,6,11] [4] ?_ ?_<;>intro h1;refine wS [10,3,3002] [1,2,4,6,21] [4] ?_ ?_<;>intro h2;refine wZ [6,11] ?_;refine bB J J ?_;rotate_left;refine wA [6,9002] [1,2,4,6] [4] ?_;exact⟨_,⟨i+1,rfl,adh,cc ax (by simp_all),rfl⟩,adh⟩;refine wA [8] [4] [4] ?_;refine oP J (ar (aK J Uo Q0 J J J) J) ?_;refine wZ [5] ?_;refine bB J J ?_;rotate_left
 all_goals
  first|(rw[show fR g n=some (g.classes.getD i default) from qi adh ax (by simp_all)];exact⟨rfl,rfl⟩)|(rw[show fR g n=none from nZ (fun j hj=>ax j adh)];exact⟨rfl,rfl⟩)
theorem Xq:B2 Tryz.prog 113 Tryz.f113.ntmps 4 112 4 5 (Tryz.f113.body.getD .skip):=⟨Tryz.f113,Tryz.func113,rfl,rfl,rfl,adi,SH,IP⟩
theorem HA {c:eu}(hl:c.cells.length≤1099511627776):aV Tryz.prog 113 [bj c,ak n] (.p (.tup [cu ((nh c n).getD I0),bool (nh c n).isSome])):=by
 refine dA Xq (aaz J) fun w0 M0 ae=>?_
 refine db [2,11] [1,2,4,6] [4] ?_;refine lr (fun zl zo zm zs=>∃i:Nat,zm=c.cells.length-i∧(i≤c.cells.length)∧(∀j,j<i→decide ((c.cells.getD j default).name=n)=false)∧zs=eV 28 [(6,vvw (int i))] zl [] zo) ?_ ?_;exact⟨_,0,rfl,aaG _,fun j hj=>absurd hj adh,rfl⟩;rintro zm zs ⟨i,rfl,aY,ax,rfl⟩;refine wS [6,3003] [1,2,4,6,11] [4] ?_ ?_<;>intro h1;refine wS [10,3,3002] [1,2,4,6,21] [4] ?_ ?_<;>intro h2;refine wZ [6,11] ?_;refine bB J J ?_;rotate_left;refine wA [6,9002] [1,2,4,6] [4] ?_;exact⟨_,⟨i+1,rfl,adh,cc ax (by simp_all),rfl⟩,adh⟩;refine wA [8] [4] [4] ?_;refine oP J (ar (aK J A9 A8 J J J) J) ?_;refine wZ [5] ?_;refine bB J J ?_;rotate_left
 all_goals
  first|(rw[show nh c n=some (c.cells.getD i default) from qi adh ax (by simp_all)];exact⟨rfl,rfl⟩)|(rw[show nh c n=none from nZ (fun j hj=>ax j adh)];exact⟨rfl,rfl⟩)
theorem Zv:B2 Tryz.prog 80 Tryz.f80.ntmps 4 97 6 5 (Tryz.f80.body.getD .skip):=⟨Tryz.f80,Tryz.func80,rfl,rfl,rfl,adi,Un,rm⟩
theorem yN (hl:g.classes.length≤1099511627776):aV Tryz.prog 80 [cD g,ak n] (.p (.tup [bj ((fR g n).getD E5),bool (fR g n).isSome])):=by
 refine dA Zv (aaz J) fun w0 M0 ae=>?_
 refine db [2,9,4] [1,4,9,10,11] [4] ?_;refine lr (fun zl zo zm zs=>∃i:Nat,zm=g.classes.length-i∧(i≤g.classes.length)∧(∀j,j<i→decide ((g.classes.getD j default).name=n)=false)∧zs=eV 22 [(11,vvw (int i))] zl [] zo) ?_ ?_;exact⟨_,0,rfl,aaG _,fun j hj=>absurd hj adh,rfl⟩;rintro zm zs ⟨i,rfl,aY,ax,rfl⟩;refine wS [3006] [1,4,9,10,11,12] [4] ?_ ?_<;>intro h1;refine wA [7,6] [1,4,7,9,10,11] [4,7] ?_;refine aD 22 [(1,_),(4,_),(7,_),(9,_),(10,_),(11,_)] [(4,_)] ae J ⟨.inl J,.inl J,.inr ⟨_,_,rfl,rfl,rfl⟩,.inl J,.inl J,.inl J,trivial⟩ ⟨rfl,trivial⟩ ?_;refine Ve [4,3002] [1,4,7,9,10,11,18] [4] ?_ ?_<;>intro h2;refine wZ [14] ?_;refine bB J J ?_;rotate_left;refine wA [5,9002] [1,4,9,10,11] [4] ?_;exact⟨_,⟨i+1,rfl,adh,cc ax (by simp_all),rfl⟩,adh⟩;refine wA [8] [4] [4] ?_;refine oP J (ar (aK J Uo Q0 J J J) J) ?_;refine wZ [5] ?_;refine bB J J ?_;rotate_left
 all_goals
  first|(rw[show fR g n=some (g.classes.getD i default) from qi adh ax (by simp_all)];exact⟨rfl,rfl⟩)|(rw[show fR g n=none from nZ (fun j hj=>ax j adh)];exact⟨rfl,rfl⟩)
abbrev Xr:=dT 4 Tryz.func195
theorem yO {l:List aG}{p:aG→Bool}{g:FuncId}{caps:List AV}(hl:l.length≤1099511627776)(hf:∀x∈l,au Tryz.prog g ([aZ x]++caps) (.p (bool (p x)))):au Tryz.prog 195 [.sl (l.map aZ),.clo g caps] (.p (int (eK p l))):=by
 refine cF Xr fun w0 M0 ae=>?_
 refine db [9,4] [0,1,7,8] [] ?_;refine lr (fun zl zo zm zs=>∃k:Nat,zm=l.length-k∧(k≤l.length)∧(∀j,j<k→p (l.getD j default)=false)∧zs=eV 19 [(7,vvw (int l.length)),(8,vvw (int k))] zl [] zo) ?_ ?_;exact⟨_,0,rfl,aaG _,fun j hj=>absurd hj adh,rfl⟩;rintro zm zs ⟨k,rfl,aY,ax,rfl⟩;refine wS [3006] [0,1,7,8,9] [] ?_ ?_<;>intro h1;refine wA [16,1] [0,1,5,7,8,11,15] [] ?_;refine oC J J J J (hf _ (aO adh)) ?_;refine wS [3002] [0,1,5,7,8,16] [] ?_ ?_<;>intro h2;refine wZ [8013] ?_;rw[←nJ (p:=p) (l:=l) (k:=k) adh ax (by simp_all)];refine wA [5,9002] [0,1,7,8] [] ?_;exact⟨_,⟨k+1,rfl,adh,cc ax (by simp_all),rfl⟩,adh⟩;refine wZ [8012] ?_;rw[←lU (p:=p) (l:=l) (fun j hj=>ax j adh)]
abbrev Xs:=dT 4 Tryz.func137
theorem HB {l:List gE}{p:gE→Bool}{g:FuncId}{caps:List AV}(hl:l.length≤1099511627776)(hf:∀x∈l,au Tryz.prog g ([cu x]++caps) (.p (bool (p x)))):au Tryz.prog 137 [.sl (l.map cu),.clo g caps] (.p (int (eK p l))):=by
 refine cF Xs fun w0 M0 ae=>?_
 refine db [9,4] [0,1,7,8] [] ?_;refine lr (fun zl zo zm zs=>∃k:Nat,zm=l.length-k∧(k≤l.length)∧(∀j,j<k→p (l.getD j default)=false)∧zs=eV 19 [(7,vvw (int l.length)),(8,vvw (int k))] zl [] zo) ?_ ?_;exact⟨_,0,rfl,aaG _,fun j hj=>absurd hj adh,rfl⟩;rintro zm zs ⟨k,rfl,aY,ax,rfl⟩;refine wS [3006] [0,1,7,8,9] [] ?_ ?_<;>intro h1;refine wA [16,1] [0,1,5,7,8,11,15] [] ?_;refine oC J J J J (hf _ (aO adh)) ?_;refine wS [3002] [0,1,5,7,8,16] [] ?_ ?_<;>intro h2;refine wZ [8013] ?_;rw[←nJ (p:=p) (l:=l) (k:=k) adh ax (by simp_all)];refine wA [5,9002] [0,1,7,8] [] ?_;exact⟨_,⟨k+1,rfl,adh,cc ax (by simp_all),rfl⟩,adh⟩;refine wZ [8012] ?_;rw[←lU (p:=p) (l:=l) (fun j hj=>ax j adh)]
abbrev Xt:=dT 3 Tryz.func196
theorem Fl {r:aG}:au Tryz.prog 196 ([aZ r]++[.pc [ak n] 0]) (.p (bool (decide (r.name=n)))):=by
 refine cF Xt fun w0 M0 ae=>?_
 refine AD [2,8,8004] ?_;rfl
abbrev Xu:=dT 3 Tryz.func138
theorem HC {c:gE}:au Tryz.prog 138 ([cu c]++[.pc [ak n] 0]) (.p (bool (decide (c.name=n)))):=by
 refine cF Xu fun w0 M0 ae=>?_
 refine AD [2,8,8004] ?_;rfl
theorem Xv:Gd Tryz.prog 139 Tryz.f139.ntmps 4 5 (Tryz.f139.body.getD .skip):=⟨Tryz.f139,Tryz.func139,rfl,rfl,rfl,adi⟩
theorem yP {l:List (List UInt8)}(hg:g.rules.length≤1099511627776)(hl:l.length≤1048576):aV Tryz.prog 139 [cD g,strs l] (.p (.tup [.sl ((bq g l).map aZ),bool (ni g l)])):=by
 refine dS Xv (aaz J) fun w0 M0 ae=>?_
 refine db [2,1006,6,4] [2,6,10,11,12] [6] ?_;refine lr (fun zl zo zm zs=>∃i:Nat,zm=l.length-i∧(i≤l.length)∧(∀j,j<i→(tE g (l.getD j default)).isSome=true)∧zs=eV 32 [(6,.own 6),(12,vvw (int i))] zl [(6,.arr 89 ((wq g (l.take i)).map aZ))] zo) ?_ ?_;exact⟨_,0,rfl,aaG _,fun j hj=>absurd hj adh,rfl⟩;rintro zm zs ⟨i,rfl,aY,ax,rfl⟩;have hlen:(wq g (l.take i)).length=i:=by rw[yE,aaO];omega
 refine wS [3006] [2,6,10,11,12,13] [6] ?_ ?_<;>intro h1;refine wA [7,6] [2,6,8,10,11,12] [6,8] ?_;refine aD 32 [(2,_),(6,_),(8,_),(10,_),(11,_),(12,_)] [(6,_)] ae J ⟨.inl J,.inl J,.inr ⟨_,_,rfl,rfl,rfl⟩,.inl J,.inl J,.inl J,trivial⟩ ⟨rfl,trivial⟩ ?_;refine oJ [3,5000] ?_;refine oC J J J J (yO (p:=fun x=>decide (x.name=l.getD i default)) adh (fun x hx=>Fl)) ?_;refine wS [3010] [2,6,9,10,11,12,21] [6] ?_ ?_<;>intro h2;refine wZ [14] ?_;refine b9 J J ?_;rotate_left;have hx:=SR (p:=fun x:aG=>decide (x.name=l.getD i default)) (l:=g.rules);refine wA [8,1,1000,5,9002] [2,6,10,11,12] [6] ?_;exact⟨_,⟨i+1,rfl,adh,e6 ax (by rw[show tE g _=_ from qX.1 adh];rfl),by rw[Bh adh (qX.1 adh),aaK];rfl⟩,adh⟩;refine wZ [14] ?_;refine b9 J J ?_;rotate_left
 all_goals
  first
   | (rw[(CJ (i:=i) adh (qX.2 adh)).1,(CJ (i:=i) adh (qX.2 adh)).2];exact⟨rfl,rfl⟩)
   | (rw[(w7 (fun j hj=>ax j adh)).1,(w7 (fun j hj=>ax j adh)).2,show l.take i=l from aa2 adh];exact⟨rfl,rfl⟩)
theorem Xw:Gd Tryz.prog 176 Tryz.f176.ntmps 4 5 (Tryz.f176.body.getD .skip):=⟨Tryz.f176,Tryz.func176,rfl,rfl,rfl,adi⟩
theorem vV {l:List (List UInt8)}(hg:g.rules.length≤1099511627776)(hl:l.length≤1048576):aV Tryz.prog 176 [cD g,strs l] (.p (.tup [.sl ((bq g l).map aZ),bool (ni g l)])):=by
 refine dS Xw (aaz J) fun w0 M0 ae=>?_
 refine db [2,1006,9] [1,2,6,7] [6] ?_;refine lp (fun zm zs=>∃i:Nat,zm=l.length-i∧(i≤l.length)∧(∀j,j<i→(tE g (l.getD j default)).isSome=true)∧zs=⟨49,[(1,vvw (strs l)),(2,vvw (ng g)),(6,.own 6),(7,vvw (int i))],[(6,.arr 89 ((wq g (l.take i)).map aZ))]⟩) ?_ ?_;exact⟨_,0,rfl,aaG _,fun j hj=>absurd hj adh,rfl⟩;rintro zm zs ⟨i,rfl,aY,ax,rfl⟩;have hlen:(wq g (l.take i)).length=i:=by rw[yE,aaO];omega
 refine wS [5,3003] [1,2,6,7,12] [6] ?_ ?_<;>intro h1;refine wA [12] [1,2,6,7,8] [6] ?_;refine lr (fun zl zo zm zs=>∃k:Nat,zm=g.rules.length-k∧(k≤g.rules.length)∧(∀j,j<k→decide ((g.rules.getD j default).name=l.getD i default)=false)∧zs=eV 49 [(6,.own 6),(7,vvw (int i)),(8,vvw (int k))] zl [(6,.arr 89 ((wq g (l.take i)).map aZ))] zo) ?_ ?_;exact⟨_,0,rfl,aaG _,fun j hj=>absurd hj adh,rfl⟩;rintro zm zs ⟨k,rfl,gi,gj,rfl⟩;refine wS [2002,6003,7002] [1,2,6,7,8,20] [6] ?_ ?_<;>intro h2';refine wS [6003,6004,6001,3003] [1,2,6,7,8,32] [6] ?_ ?_<;>intro h3;refine wA [6,9003] [1,2,6,7,8] [6] ?_;exact⟨_,⟨k+1,rfl,adh,cc gj (by simp_all),rfl⟩,adh⟩;refine wS [12,3003] [1,2,6,7,8,39] [6] ?_ ?_<;>intro h4;refine wZ [14] ?_;refine b9 J J ?_;rotate_left;refine wA [8,1,1000,6,9002] [1,2,6,7] [6] ?_;rotate_left;refine wS [26,3003] [1,2,6,7,8,39] [6] ?_ ?_<;>intro h5;refine wZ [14] ?_;refine b9 J J ?_;rotate_left;refine wA [8,1,1000,6,9002] [1,2,6,7] [6] ?_;rotate_left;refine wZ [14] ?_;refine b9 J J ?_;rotate_left
 all_goals first
  | (
    first
      | (rw[(CJ (i:=i) adh (nZ (fun j hj=>gj j adh))).1,(CJ (i:=i) adh (nZ (fun j hj=>gj j adh))).2];exact⟨rfl,rfl⟩)
      | (rw[(w7 (fun j hj=>ax j adh)).1,(w7 (fun j hj=>ax j adh)).2,show l.take i=l from aa2 adh];exact⟨rfl,rfl⟩);done)
  | (
    first|(exfalso;omega)|exact⟨_,⟨i+1,rfl,adh,e6 ax (by rw[show tE g _=some (g.rules.getD k default) from qi adh gj (by simp_all)];rfl),by rw[Bh adh (r:=g.rules.getD k default) (qi adh gj (by simp_all)),aaK];rfl⟩,adh⟩;done)
end Go.Proofs.YtlapahnodhmcpaaGreat
namespace Go.Wf
open Go.Am Go.Wb Go.Wc
def K3 (x:Int):Bool:=decide (0≤x)&&decide (x<60)
def gH (l:List Int):Bool:=l.all K3
theorem Fo (w:List Int):(!w.any fun x=>!K3 x)=gH w:=by unfold gH;rw[List.not_any_eq_all_not];simp
def u2 (l:List Int):Bool:=decide (l.length≤24)&&gH l
def jg (c:eu)(w:List Int):Bool:=decide (0≤c.strip)&&decide (c.strip≤24)&&decide (c.strip<(w.length:Int))&&decide (w.length≤24)&&gH w&&sd c.fits w
def lh (out x:List Int):List Int:=if x.length=0 then out else if out.length=0 then x else out++[63]++x
def iM (l:List (List Int)):List Int:=l.foldl lh []
variable{l:List (List Int)}{i:Nat}
theorem yQ (h:i<l.length):iM (l.take (i+1))=lh (iM (l.take i)) (l.getD i default):=by unfold iM;rw[take_succ h,ab2];rfl
variable{out x:List Int}
theorem I6 (h:x.length=0):lh out x=out++x:=by unfold lh;rw[if_pos h,aa4 h,abe]
theorem I7 (h:out.length=0):lh out x=out++x:=by
 have:out=[]:=aa4 h;subst this;unfold lh;split
 ·next h=>rw[aa4 h];rfl
 ·rfl
theorem I8 (h:x.length≠0)(h1:out.length≠0):lh out x=out++[63]++x:=by unfold lh;rw[if_neg h,if_neg h1]
theorem K4 (out x:List Int):(lh out x).length≤out.length+1+x.length:=by
 unfold lh;split
 ·omega
 ·split
  ·omega
  ·simp only[aaM,aaE,aaL];omega
theorem K5 {B:Nat}(h:∀x∈l,x.length≤B):(iM l).length≤l.length*(B+1):=by
 have key:∀(l:List (List Int))(o:List Int),(∀x∈l,x.length≤B)→(l.foldl lh o).length≤o.length+l.length*(B+1):=by
   intro l
   induction l with
   | nil=>intro o _;simp
   | cons x l ih =>
     intro o h;rw[acz];have h1:=ih (lh o x) fun y hy=>h y (aaW _ hy)
     have h2:=K4 o x;have h3:=h x aaJ;rw[aaE,acL];omega
 have:=key l [] h;show(l.foldl lh []).length≤_;rw[aaL,abL] at this;exact this
def wK (w:List Int)(l:List aG):List Int:=l.foldl (fun w r=>bp r w) w
def bz (w:List Int):List aG→Bool
 | []=>true
 | r :: l=>decide ((bp r w).length≤64)&&bz (bp r w) l
def nK (w:List Int):List aG→List (List UInt8)
 | []=>[]
 | r :: l=>(if bp r w=w then[] else[r.name])++nK (bp r w) l
variable{w:List Int}
theorem fF {l:List aG}(h:i<l.length):wK w (l.take (i+1))=bp (l.getD i default) (wK w (l.take i)):=by unfold wK;rw[take_succ h,ab2];rfl
theorem OI:∀ (l m:List aG)(w:List Int),nK w (l++m)=nK w l++nK (wK w l) m
 | [],m,w=>rfl
 | r :: l, m, w => by
   show(if bp r w=w then[] else[r.name])++nK (bp r w) (l++m)=((if bp r w=w then[] else[r.name])++nK (bp r w) l)++_;rw[OI l m,abr];rfl
theorem tK {l:List aG}(h:i<l.length):nK w (l.take (i+1))=nK w (l.take i)++(if bp (l.getD i default) (wK w (l.take i))=wK w (l.take i) then[] else[(l.getD i default).name]):=by rw[take_succ h,OI];show _++((if _ then[] else[_])++[])=_;rw[abe]
theorem sx:∀ (l m:List aG)(w:List Int),bz w (l++m)=(bz w l&&bz (wK w l) m)
 | [],m,w=>rfl
 | r :: l, m, w => by
   show(decide _&&bz (bp r w) (l++m))=((decide _&&bz (bp r w) l)&&_);rw[sx l m,Bool.and_assoc];rfl
theorem nk {l:List aG}(h:i<l.length):bz w (l.take (i+1))=(bz w (l.take i)&&decide ((wK w (l.take (i+1))).length≤64)):=by rw[fF h,take_succ h,sx];show(_&&(decide _&&true))=_;rw[Bool.and_true]
theorem Bs {l:List aG}(h:i<l.length)(h2:64<(wK w (l.take (i+1))).length):bz w l=false:=by have e:l=l.take (i+1)++l.drop (i+1):=(abU _ _).symm;rw[e,sx,nk h,decide_eq_false (show ¬(wK w (l.take (i+1))).length≤64 by omega),ab5,ab1]
theorem o7:∀ (l:List aG)(w:List Int),(nK w l).length≤l.length
 | [],w=>aaD _
 | r :: l, w => by
   have:=o7 l (bp r w);unfold nK;rw[aaM,aaE];split<;>simp<;>omega
def hJ (w:List Int):List Int:=w.filter fun x=>decide (x≠63)
theorem l3 (h:i<w.length):hJ (w.take (i+1))=hJ (w.take i)++(if w.getD i default=63 then[] else[w.getD i default]):=by
 unfold hJ;rw[take_succ h,abG,abz,acf];by_cases q:w.getD i default=63
 ·rw[if_pos q,if_neg (by simpa using q)]
 ·rw[if_neg q,if_pos (by simpa using q)]
theorem tL (w:List Int):(hJ w).length≤w.length:=abT _ _
structure LA (r:aG):Prop where
 pairs:r.pairs.length≤1000
 dst:∀p∈r.pairs,p.dst.length≤1000
 left:r.left.size≤200
 right:r.right.size≤100
theorem o8 {r:aG}:(bp r w).length≤3*w.length:=by
 by_cases h:bK r=true∧fP w=true
 ·rw[yM h rfl];exact(Fj h.1 _).1
 ·rw[Br (by cases h1:bK r<;>cases h2:fP w<;>simp_all)];omega
theorem Xx {x:Int}(h:x<0):(!K3 x)=true:=by unfold K3;rw[decide_eq_false adh];rfl
theorem Xy {x:Int}(h:0≤x):(!K3 x)=decide (60≤x):=by unfold K3;rw[decide_eq_true h,abS,←decide_not];exact decide_eq_decide.2 adh
theorem I9 (h:x.length=0):lh out x=out:=if_pos h
theorem Ja (hl:l.length≤32)(hB:∀x∈l,x.length≤1048576)(i:Nat):(iM (l.take i)).length≤32*1048577:=by
 have h1:=K5 (l:=l.take i) (B:=1048576) (fun x hx=>hB x (abO hx));have h2:(l.take i).length≤32:=by rw[aaO];omega
 exact abb h1 (abR _ h2)
end Go.Wf
namespace Go.Proofs.YtlapahnodhmcpaaGreat
open Go.Am Go.Wb Go.Wc Go.Wf Go.We
abbrev Xz:=dT 2 Tryz.func225
theorem zR {x:Int}:au Tryz.prog 225 [int x] (.p (bool (!K3 x))):=by
 refine cF Xz fun w0 M0 ae=>?_
 refine pO [4010] [0,5] [] ?_ ?_<;>intro h1';refine wZ [8007] ?_;rotate_left;refine wZ [8007] ?_;rotate_left
 all_goals
  first|(rw[Xx adh];first|done|rfl)|(rw[Xy adh];first|done|rfl)
abbrev XA:=dT 2 Tryz.func182
variable{w:List Int}
theorem tM (hw:w.length≤1099511627776):au Tryz.prog 182 [ints w] (.p (bool (gH w))):=by
 refine cF XA fun w0 M0 ae=>?_
 refine db [8] [3] [] ?_;refine oC J J J J (Bg (p:=fun x=>!K3 x) adh (fun x hx=>zR)) ?_;refine wZ [8005] ?_;rw[Fo]
abbrev XB:=dT 2 Tryz.func177
theorem nA (hw:w.length≤1099511627776):au Tryz.prog 177 [ints w] (.p (bool (gH w))):=by
 refine cF XB fun w0 M0 ae=>?_
 refine db [12] [0,3] [] ?_;refine lr (fun zl zo zm zs=>∃i:Nat,zm=w.length-i∧(i≤w.length)∧(∀j,j<i→K3 (w.getD j default)=true)∧zs=eV 22 [(3,vvw (int i))] zl [] zo) ?_ ?_;exact⟨_,0,rfl,aaG _,fun j hj=>absurd hj adh,rfl⟩;rintro zm zs ⟨i,rfl,aY,ax,rfl⟩;refine wS [5,3003] [0,3,7] [] ?_ ?_<;>intro h1;refine wS [9,4003] [0,3,15] [] ?_ ?_<;>intro h2';refine wZ [8020] ?_;rotate_left;refine wS [2,3005] [0,3,21] [] ?_ ?_<;>intro h3;refine wZ [8012] ?_;rotate_left;refine wA [6,9002] [0,3] [] ?_;exact⟨_,⟨i+1,rfl,adh,cc ax (by unfold K3;simp_all;first|done|omega),rfl⟩,adh⟩;refine wZ [8012] ?_;rotate_left
 all_goals
  show _=RV.p (Am.bool (w.all K3));first|(rw[Be (i:=i) adh (by unfold K3;simp_all;first|done|omega)];done)|(rw[uZ (fun j hj=>ax j adh)];done)
abbrev XC:=dT 2 Tryz.func142
theorem yS (hw:w.length≤1099511627776):au Tryz.prog 142 [ints w] (.p (bool (u2 w))):=by
 refine cF XC fun w0 M0 ae=>?_
 refine pO [8,4002] [0,6] [] ?_ ?_<;>intro h1';refine wA [1] [6,7] [] ?_;refine oC J J J J (tM adh) ?_;refine wZ [8005] ?_;rotate_left;refine wZ [8007] ?_;rotate_left
 all_goals
  unfold u2;simp_all;first|done|omega
abbrev XD:=dT 4 Tryz.func118
theorem K6 {c:eu}(hw:w.length≤1099511627776)(hc:c.fits.size≤1048576)(hS:(dw c.fits).size≤10000):au Tryz.prog 118 [bj c,ints w] (.p (bool (jg c w))):=by
 refine cF XD fun w0 M0 ae=>?_
 refine pO [2,4009] [1,2,8] [] ?_ ?_<;>intro h1';refine wS [4005] [1,2,13] [] ?_ ?_<;>intro h2';refine wS [1,4005] [1,2,20] [] ?_ ?_<;>intro h3';refine wS [1,4003] [1,2,25] [] ?_ ?_<;>intro h4';refine wA [1] [1,2,25,26] [] ?_;refine oC J J J J (tM adh) ?_;refine wS [4002] [1,2,29] [] ?_ ?_<;>intro h5';refine wA [3] [29,31,32] [] ?_;refine oC J J J J (Fa (S:=10000) (N:=24) adh hS adh adj adj) ?_;refine wZ [8005] ?_;rotate_left;refine wZ [8009] ?_;rotate_left;refine wZ [8013] ?_;rotate_left;refine wZ [8018] ?_;rotate_left;refine wZ [8025] ?_;rotate_left;refine wZ [8030] ?_;rotate_left
 all_goals
  first|(unfold jg;simp_all;first|done|omega)|(unfold jg;simp_all)
abbrev XE:=dT 4 Tryz.func114
theorem HD {c:eu}(hw:w.length≤1099511627776)(hc:c.fits.size≤1048576):au Tryz.prog 114 [bj c,ints w] (.p (bool (jg c w))):=by
 refine cF XE fun w0 M0 ae=>?_
 refine pO [2,4009] [1,2,8] [] ?_ ?_<;>intro h1';refine wS [4005] [1,2,13] [] ?_ ?_<;>intro h2';refine wS [1,4005] [1,2,20] [] ?_ ?_<;>intro h3';refine wS [1,4003] [1,2,25] [] ?_ ?_<;>intro h4';refine wA [1] [1,2,25,26] [] ?_;refine oC J J J J (nA adh) ?_;refine wS [4002] [1,2,29] [] ?_ ?_<;>intro h5';refine wA [3] [29,31,32] [] ?_;refine oC J J J J (by have h:=qf (r:=c.fits) (w:=w) adh adh;rw[←qg] at h;exact h) ?_;refine wZ [8005] ?_;rotate_left;refine wZ [8009] ?_;rotate_left;refine wZ [8013] ?_;rotate_left;refine wZ [8018] ?_;rotate_left;refine wZ [8025] ?_;rotate_left;refine wZ [8030] ?_;rotate_left
 all_goals
  first|(unfold jg;simp_all;first|done|omega)|(unfold jg;simp_all)
abbrev XF:=dT 4 Tryz.func181
theorem rM {a b:List Int}(ha:a.length≤1099511627776)(hb:b.length≤1099511627776):au Tryz.prog 181 [ints a,ints b] (.p (bool (decide (a=b)))):=by
 refine cF XF fun w0 M0 ae=>?_
 refine pO [9,1,3003] [0,1,10] [] ?_ ?_<;>intro h1;refine wZ [8008] ?_;rw[decide_eq_false];intro he;subst he;exact h1 rfl;refine wA [10] [0,1,5] [] ?_;refine lr (fun zl zo zm zs=>∃k:Nat,zm=a.length-k∧(k≤a.length)∧(a.take k=b.take k)∧zs=eV 26 [(5,vvw (int k))] zl [] zo) ?_ ?_;exact⟨_,0,rfl,aaG _,rfl,rfl⟩;rintro zm zs ⟨k,rfl,aY,ax,rfl⟩;refine wS [5,3003] [0,1,5,14] [] ?_ ?_<;>intro h2;refine wS [2006,6002,6003,3004] [0,1,5,25] [] ?_ ?_<;>intro h3;refine wZ [8012] ?_;rw[decide_eq_false];intro he;subst he;exact h3 rfl;refine wA [6,9002] [0,1,5] [] ?_;exact⟨_,⟨k+1,rfl,adh,by rw[take_succ adh,take_succ adh,ax,h3],rfl⟩,adh⟩;refine wZ [8012] ?_;rw[decide_eq_true];have h:=ax;rw[aa2 adh,aa2 adh] at h;exact h
abbrev Zw:=dT 4 Tryz.func59
theorem qk {a b:List Int}(ha:a.length≤1099511627776)(hb:b.length≤1099511627776):au Tryz.prog 59 [ints a,ints b] (.p (bool (decide (a=b)))):=by
 refine cF Zw fun w0 M0 ae=>?_
 refine pO [9,1,3003] [0,1,10] [] ?_ ?_<;>intro h1;refine wZ [8008] ?_;rw[decide_eq_false];intro he;subst he;exact h1 rfl;refine wA [7,4] [0,1,12,13] [] ?_;refine lr (fun zl zo zm zs=>∃k:Nat,zm=a.length-k∧(k≤a.length)∧(a.take k=b.take k)∧zs=eV 26 [(12,vvw (int a.length)),(13,vvw (int k))] zl [] zo) ?_ ?_;exact⟨_,0,rfl,aaG _,rfl,rfl⟩;rintro zm zs ⟨k,rfl,aY,ax,rfl⟩;refine wS [3006] [0,1,12,13,14] [] ?_ ?_<;>intro h2;refine wS [2012,6002,6003,3004] [0,1,12,13,24] [] ?_ ?_<;>intro h3;refine wZ [8012] ?_;rw[decide_eq_false];intro he;subst he;exact h3 rfl;refine wA [5,9002] [0,1,12,13] [] ?_;exact⟨_,⟨k+1,rfl,adh,by rw[take_succ adh,take_succ adh,ax,h3],rfl⟩,adh⟩;refine wZ [8012] ?_;rw[decide_eq_true];have h:=ax;rw[aa2 adh,aa2 adh] at h;exact h
abbrev XG:=dT 2 Tryz.func121
theorem K7 {l:List (List Int)}(hl:l.length≤32)(hB:∀x∈l,x.length≤1048576):au Tryz.prog 121 [nC l] (.fresh 3 ((iM l).map int)):=by
 refine cF XG fun w0 M0 ae=>?_
 refine db [1007,6,4] [3,6,7,8] [3] ?_;refine lr (fun zl zo zm zs=>∃i:Nat,zm=l.length-i∧(i≤l.length)∧zs=eV 28 [(3,.own 3),(6,vvz (nC l)),(7,vvw (int l.length)),(8,vvw (int i))] zl [(3,.arr 3 ((iM (l.take i)).map int))] zo) ?_ ?_;exact⟨_,0,rfl,aaG _,rfl⟩;rintro zm zs ⟨i,rfl,aY,rfl⟩;have hlen:(iM (l.take i)).length≤32*1048577:=Ja hl hB i;have hx:=fun h:i<l.length=>hB _ (aO h)
 refine wS [3006] [3,6,7,8,9] [3] ?_ ?_<;>intro h1;refine wS [7,8,4002] [3,5,6,7,8,15] [3] ?_ ?_<;>intro h2';refine wS [1,3004] [3,5,6,7,8,19] [3] ?_ ?_<;>intro h3;refine wA [3,1000,1006,5,9002] [3,6,7,8] [3] ?_;rotate_left;refine wA [1006,5,9002] [3,6,7,8] [3] ?_;rotate_left;refine wA [1012,5,9002] [3,6,7,8] [3] ?_;rotate_left;refine wZ [8013] ?_;rw[aa2 adh]
 all_goals
  exact⟨_,⟨i+1,rfl,adh,by rw[yQ adh];first|(rw[I8 adh adh,aaK,aaK];rfl)|(rw[I7 adh,aaK];rfl)|(rw[I6 adh,aaK];rfl)|(rw[I9 adh];rfl)⟩,adh⟩
abbrev XH:=dT 2 Tryz.func116
theorem CR {l:List (List Int)}(hl:l.length≤32)(hB:∀x∈l,x.length≤1048576):au Tryz.prog 116 [nC l] (.fresh 3 ((iM l).map int)):=by
 refine cF XH fun w0 M0 ae=>?_
 refine db [1007,9] [0,3,4] [3] ?_;refine lr (fun zl zo zm zs=>∃i:Nat,zm=l.length-i∧(i≤l.length)∧zs=eV 30 [(3,.own 3),(4,vvw (int i))] zl [(3,.arr 3 ((iM (l.take i)).map int))] zo) ?_ ?_;exact⟨_,0,rfl,aaG _,rfl⟩;rintro zm zs ⟨i,rfl,aY,rfl⟩;have hlen:(iM (l.take i)).length≤32*1048577:=Ja hl hB i;have hx:=fun h:i<l.length=>hB _ (aO h)
 refine wS [5,3003] [0,3,4,8] [3] ?_ ?_<;>intro h1;refine wS [9,1,3003] [0,3,4,16] [3] ?_ ?_<;>intro h2;refine wS [5,3003] [0,3,4,19] [3] ?_ ?_<;>intro h3;refine wA [3,1000,7,1001,6,9002] [0,3,4] [3] ?_;rotate_left;refine wA [7,1001,6,9002] [0,3,4] [3] ?_;rotate_left;refine wA [6,9002] [0,3,4] [3] ?_;rotate_left;refine wZ [8013] ?_;rw[aa2 adh]
 all_goals
  exact⟨_,⟨i+1,rfl,adh,by rw[yQ adh];first|(rw[I8 adh adh,aaK,aaK];rfl)|(rw[I7 adh,aaK];rfl)|(rw[I6 adh,aaK];rfl)|(rw[I9 adh];rfl)⟩,adh⟩
end Go.Proofs.YtlapahnodhmcpaaGreat
namespace Go.Wf
open Go.Am Go.Wb Go.Wc
def lD (w:List Int):List aG→List Int×List (List UInt8)×Bool
 | []=>(w,[],false)
 | r :: l => if (bp r w).length ≤ 64 then ((lD (bp r w) l).1, (if bp r w = w then [] else [r.name]) ++ (lD (bp r w) l).2.1, (lD (bp r w) l).2.2)
   else(bp r w,(if bp r w=w then[] else[r.name]),true)
theorem n4:∀ {l:List aG}{w:List Int},bz w l=true→lD w l=(wK w l,nK w l,false)
 | [],w,_=>rfl
 | r :: l, w, h => by
   unfold bz at h;rw[aaZ,decide_eq_true_eq] at h;unfold lD;rw[if_pos h.1,n4 h.2];rfl
theorem yT (r:aG)(l:List aG)(w:List Int):lD w (r :: l)=if(bp r w).length≤64 then((lD (bp r w) l).1,(if bp r w=w then[] else[r.name])++(lD (bp r w) l).2.1,(lD (bp r w) l).2.2)
 else(bp r w,(if bp r w=w then[] else[r.name]),true):=rfl
theorem Jb:∀ {l m:List aG}{w:List Int},bz w l=true→lD w (l++m)=((lD (wK w l) m).1,nK w l++(lD (wK w l) m).2.1,(lD (wK w l) m).2.2)
 | [],m,w,_=>rfl
 | r :: l, m, w, h => by
   unfold bz at h;rw[aaZ,decide_eq_true_eq] at h;show lD w (r :: (l++m))=((lD (wK (bp r w) l) m).1,((if bp r w=w then[] else[r.name])++nK (bp r w) l)++(lD (wK (bp r w) l) m).2.1,(lD (wK (bp r w) l) m).2.2);rw[yT,if_pos h.1,Jb h.2,abr]
variable{w:List Int}{l:List aG}
theorem UA {i:Nat}(h:bz w (l.take i)=true)(hi:l.length≤i):lD w l=(wK w (l.take i),nK w (l.take i),false):=by rw[aa2 hi] at h ⊢;exact n4 h
theorem Rj {i:Nat}(hi:i<l.length)(h:bz w (l.take i)=true)(h2:64<(wK w (l.take (i+1))).length):lD w l=(wK w (l.take (i+1)),nK w (l.take (i+1)),true):=by
 have e:l=l.take i++(l.getD i default :: l.drop (i+1)):=by rw[cU hi,←ab4 hi,abU]
 rw[fF hi] at h2
 conv=>lhs;rw[e]
 rw[Jb h,fF hi,tK hi];have:lD (wK w (l.take i)) (l.getD i default :: l.drop (i+1))=(bp (l.getD i default) (wK w (l.take i)),(if bp (l.getD i default) (wK w (l.take i))=wK w (l.take i) then[] else[(l.getD i default).name]),true):=by
  rw[yT,if_neg adh]
 rw[this]
theorem tN :(lD w l).2.2=!bz w l:=by
 induction l generalizing w with
 | nil=>rfl
 | cons r l ih =>
   unfold lD bz;by_cases h:(bp r w).length≤64
   · rw[if_pos h,decide_eq_true h,abS];exact ih
   · rw[if_neg h,decide_eq_false h];rfl
theorem Jc :∀{w:List Int},w.length≤192→(l≠[]→w.length≤64)→(lD w l).1.length≤192:=by
 induction l with
 | nil=>intro w h _;exact h
 | cons r l ih =>
   intro w h h1;have h2:=h1 (by simp);have h3:=o8 (r:=r) (w:=w);unfold lD;by_cases q:(bp r w).length≤64
   · rw[if_pos q];exact ih adh fun _=>q
   · rw[if_neg q];show(bp r w).length≤192;omega
end Go.Wf
namespace Go.Proofs.YtlapahnodhmcpaaGreat
open Go.Am Go.Wb Go.Wc Go.Wf Go.We
theorem S4:R4 Tryz.prog 115 Tryz.f115.ntmps 4 5 6 (Tryz.f115.body.getD .skip):=⟨Tryz.f115,Tryz.func115,rfl,rfl,rfl,adi⟩
variable{w:List Int}
theorem PQ {l:List aG}(hw:w.length≤64)(hl:l.length≤1048576)(hR:∀r∈l,LA r) :
   aV Tryz.prog 115 [ints w,.sl (l.map aZ)] (.p (.tup [ints (if bz w l=true then wK w l else[]),strs (if bz w l=true then nK w l else[]),bool (bz w l)])):=by
 refine pN S4 (aaz J) fun w0 M0 ae=>?_
 refine db [1009,9] [0,1,7,8] [7] ?_;refine lr (fun zl zo zm zs=>∃i:Nat,zm=l.length-i∧(i≤l.length)∧(bz w (l.take i)=true)∧((wK w (l.take i)).length≤64)∧zs=eV 40 [(0,vvw (ints (wK w (l.take i)))),(7,.own 7),(8,vvw (int i))] zl [(7,.arr 9 ((nK w (l.take i)).map ak))] zo) ?_ ?_;exact⟨_,0,rfl,aaG _,rfl,hw,rfl⟩;rintro zm zs ⟨i,rfl,aY,ax,c7,rfl⟩;have OJ:=fun h:i<l.length=>hR _ (aO h)
 have hn:(nK w (l.take i)).length≤l.length:=abb (o7 _ _) (by rw[aaO];omega);refine wS [5,3003] [0,1,7,8,13] [7] ?_ ?_<;>intro h1;refine wA [9,2] [0,1,7,8,19,20] [7] ?_;refine oC J J J J (by have h:=vS (r:=l.getD i default) (w:=(wK w (l.take i))) adh (by have:=(OJ adh).pairs;omega) (fun p hp=>abb ((OJ adh).dst p hp) adj) (by have:=(OJ adh).left;omega) (by have:=(OJ adh).right;omega);rw[←EZ] at h;exact h) ?_;refine wA [8] [1,7,8,9,22,23] [7] ?_;refine oC J J J J (rM (a:=bp (l.getD i default) (wK w (l.take i))) (b:=(wK w (l.take i))) (by have:=o8 (r:=l.getD i default) (w:=(wK w (l.take i)));omega) adh) ?_;refine wS [3003] [1,7,8,9,25] [7] ?_ ?_<;>intro h2;refine wS [5,2,1000,12,3003] [0,1,7,8,37] [7] ?_ ?_<;>intro h3;refine wZ [14] ?_;refine gz J J J ?_;rotate_left;refine wA [6,9002] [0,1,7,8] [7] ?_;rotate_left;refine wS [12,3003] [0,1,7,8,37] [7] ?_ ?_<;>intro h4;refine wZ [14] ?_;refine gz J J J ?_;rotate_left;refine wA [6,9002] [0,1,7,8] [7] ?_;rotate_left;refine wZ [16] ?_;refine gz J J J ?_;rotate_left
 all_goals first
  | (
    first
      | (rw[Bs (i:=i) adh (by rw[fF adh];omega)];exact⟨rfl,rfl,rfl⟩)
      | (rw[aa2 adh] at *;rw[show bz w l=true by assumption];exact⟨rfl,rfl,rfl⟩);done)
  | (
    exact⟨_,⟨i+1,rfl,adh,(by rw[nk adh,ax,fF adh,abS];exact decide_eq_true adh),(by rw[fF adh];omega),by rw[fF adh,tK adh];first|(rw[if_pos adk,abe];rfl)|(rw[if_neg adk,aaK];rfl)⟩,adh⟩;done)
theorem Fp {r:aG}(h:LA r)(hw:w.length≤64):au Tryz.prog 120 [aZ r,ints w] (.fresh 3 ((bp r w).map int)):=by
 have h1:=h.left;have h2:=h.right;have h3:=h.pairs;have e1:=kz false (fQ r.left);have e2:=yK r.left;have e3:=kz false (fQ (eB r.right));have e4:=yK (eB r.right);have e5:=Fg r.right;have s1:(dw (fQ r.left)).size≤600:=by unfold dw;split<;>first|omega|decide
 have s2:(dw (fQ (eB r.right))).size≤600:=by unfold dw;split<;>first|omega|decide
 refine Hz (S:=600) adh adh (fun p hp=>abb (h.dst p hp) adj) adh adh s1 s2 ?_;have hm:2*600*(w.length+1+2)+66≤80466:=adh;exact abb (Nat.mul_le_mul hm hm) adj
abbrev XI:=dT 6 Tryz.func119
theorem yU {l:List aG}{acc:List (List UInt8)}{cn:List UInt8}(hw:w.length≤64)(hl:l.length≤1048576)(hR:∀r∈l,LA r)(ha:acc.length≤1048576) :
   lB Tryz.prog 119 [vvw (ints w),vvz (.sl (l.map aZ)),.pbox 1000000 0,.pbox 1000001 0]
     [(11,.arr 9 (acc.map ak)),(1000000,.box 64 [vvw (ak cn),vvv,vvv,.own 11]),(1000001,.box 4 [vvw (bool false)])]
     (vvw (ints (lD w l).1)) [(11,.arr 9 ((acc++(lD w l).2.1).map ak)),(1000000,.box 64 [vvw (ak cn),vvv,vvv,.own 11]),(1000001,.box 4 [vvw (bool (lD w l).2.2)])]:=by
 refine gL XI (aaz J) fun w0 M0 ae=>?_
 refine db [9,4] [0,2,3,10,11,12] [11,1000000,1000001] ?_;refine lp (fun zm zs=>∃i:Nat,zm=l.length-i∧(i≤l.length)∧(bz w (l.take i)=true)∧((wK w (l.take i)).length≤64)∧zs=⟨40,[(0,vvw (ints (wK w (l.take i)))),(2,.pbox 1000000 0),(3,.pbox 1000001 0),(10,vvz (.sl (l.map aZ))),(11,vvw (int l.length)),(12,vvw (int i))],[(11,.arr 9 ((acc++nK w (l.take i)).map ak)),(1000000,.box 64 [vvw (ak cn),vvv,vvv,.own 11]),(1000001,.box 4 [vvw (bool false)])]⟩) ?_ ?_;exact⟨_,0,rfl,aaG _,rfl,hw,by rw[show nK w (l.take 0)=[] from J,abe];rfl⟩;rintro zm zs ⟨i,rfl,aY,ax,c7,rfl⟩;have OJ:=fun h:i<l.length=>hR _ (aO h)
 have hn:(nK w (l.take i)).length≤l.length:=abb (o7 _ _) (by rw[aaO];omega);refine wS [3006] [0,2,3,10,11,12,13] [11,1000000,1000001] ?_ ?_<;>intro h1;refine wA [7,9] [0,2,3,8,10,11,12,16,17] [8,11,1000000,1000001] ?_;refine oC J J J J (Fp (r:=l.getD i default) (w:=(wK w (l.take i))) (OJ adh) adh) ?_;refine wA [8] [2,3,8,9,10,11,12,19,20] [8,11,1000000,1000001] ?_;refine oC J J J J (qk (a:=bp (l.getD i default) (wK w (l.take i))) (b:=(wK w (l.take i))) (by have:=o8 (r:=l.getD i default) (w:=(wK w (l.take i)));omega) adh) ?_;refine wS [3003] [2,3,8,9,10,11,12,22] [8,11,1000000,1000001] ?_ ?_<;>intro h2;refine wA [6,1000,12] [0,2,3,10,11,12] [11,1000000,1000001] ?_;refine oP J (bA (b':=false) (aa J SE J J J) (rfl)) ?_;refine wS [2,3010] [0,2,3,10,11,12,37] [11,1000000,1000001] ?_ ?_<;>intro h3;refine wZ [14] ?_;refine eG (o1:=[(11,_),(1000000,_),(1000001,_)]) J ⟨rfl,rfl,rfl,trivial⟩ ?_;rotate_left;refine wA [5,9002] [0,2,3,10,11,12] [11,1000000,1000001] ?_;rotate_left;refine wA [11] [0,2,3,10,11,12] [11,1000000,1000001] ?_;refine oP J (bA (b':=false) (aa J SE J J J) (rfl)) ?_;refine wS [2,3010] [0,2,3,10,11,12,37] [11,1000000,1000001] ?_ ?_<;>intro h4;refine wZ [14] ?_;refine eG (o1:=[(11,_),(1000000,_),(1000001,_)]) J ⟨rfl,rfl,rfl,trivial⟩ ?_;rotate_left;refine wA [5,9002] [0,2,3,10,11,12] [11,1000000,1000001] ?_;rotate_left;refine wZ [13] ?_;refine eG (o1:=[(11,_),(1000000,_),(1000001,_)]) J ⟨rfl,rfl,rfl,trivial⟩ ?_;rotate_left
 all_goals first
  | (
    first
      | (rw[UA (l:=l) ax adh];exact⟨rfl,rfl⟩)
      | (rw[Rj (l:=l) (i:=i) adh ax (by rw[fF adh];omega),fF adh,tK adh,decide_eq_true (p:=(64:Int)<((bp (l.getD i default) (wK w (l.take i))).length:Int)) adh];first|(rw[if_pos adk,abe];exact⟨rfl,rfl⟩)|(rw[if_neg adk,←abr,aaK (l₁:=acc++_)];exact⟨rfl,rfl⟩));done)
  | (
    exact⟨_,⟨i+1,rfl,adh,(by rw[nk adh,ax,fF adh,abS];exact decide_eq_true adh),(by rw[fF adh];omega),by rw[fF adh,tK adh,decide_eq_false (p:=(64:Int)<((bp (l.getD i default) (wK w (l.take i))).length:Int)) adh];first|(rw[if_pos adk,abe];rfl)|(rw[if_neg adk,←abr,aaK (l₁:=acc++_)];rfl)⟩,adh⟩;done)
end Go.Proofs.YtlapahnodhmcpaaGreat
namespace Go.Wf
open Go.Am Go.Wb Go.Wc
structure Yo (x:gE):Prop where
 pre:x.pre.length≤1000
 suf:x.suf.length≤1000
 change:x.change.length≤1000
structure UB (c:eu):Prop where
 cells:c.cells.length≤1000
 cell:∀x∈c.cells,Yo x
 fits:c.fits.size≤1048576
 sim:(dw c.fits).size≤10000
structure mB (g:aA):Prop where
 nrules:g.rules.length≤1000
 rules:∀r∈g.rules,LA r
 nclasses:g.classes.length≤1000
 classes:∀c∈g.classes,UB c
 order:g.order.length≤1000
theorem OK:UB E5:=⟨by decide,(fun x hx=>by cases hx),by decide,by decide +kernel⟩
theorem OL:Yo I0:=⟨by decide,by decide,by decide⟩
theorem yV {α:Type}{f:α→List UInt8}{l:List α}{n:List UInt8}{x:α}(h:qh f l n=some x):x∈l:=acm h
def bk (g:aA)(cl:List UInt8):eu:=(fR g cl).getD E5
def bR (g:aA)(cl cn:List UInt8):gE:=(nh (bk g cl) cn).getD I0
variable{g:aA}
theorem lz (h:mB g)(cl:List UInt8):UB (bk g cl):=by
 unfold bk;cases hc:fR g cl with
 | none=>exact OK
 | some c=>exact h.classes c (yV hc)
theorem jB (h:mB g)(cl cn:List UInt8):Yo (bR g cl cn):=by
 unfold bR;cases hc:nh (bk g cl) cn with
 | none=>exact OL
 | some c=>exact(lz h cl).cell c (yV hc)
theorem gX {l:List (List UInt8)}{r:aG}(h:r∈bq g l):r∈g.rules:=by
 unfold bq at h;by_cases ho:ni g l=true
 ·rw[if_pos ho] at h;unfold wq at h;obtain⟨n,hn,rfl⟩:=aa7.1 h;have:=aa5.1 ho n hn;obtain⟨x,hx⟩:=Option.isSome_iff_exists.1 this;rw[hx];exact yV hx
 ·rw[if_neg ho] at h;cases h
theorem kN {l:List (List UInt8)}:(bq g l).length≤l.length:=by
 unfold bq;split
 ·rw[yE];exact aaD _
 ·exact aaG _
def j4 (g:aA)(cl cn:List UInt8):Bool:=decide (0≤(bk g cl).strip)&&decide ((bk g cl).strip≤24)&&u2 (bR g cl cn).pre&&u2 (bR g cl cn).suf&&aT (bk g cl).fits &&
 (bq g (bR g cl cn).change).all bK&&(bq g g.order).all bK
def iR (g:aA)(cl cn:List UInt8):Bool:=(fR g cl).isSome&&(nh (bk g cl) cn).isSome&&ni g (bR g cl cn).change&&ni g g.order
def hU (g:aA)(cl cn:List UInt8):Int:=if iR g cl cn=false then 6 else if j4 g cl cn=false then 1 else 0
def CS (c:eu)(x:gE)(ch od:List aG):List AV:=o5 c++E2 x++[.sl (ch.map aZ),.sl (od.map aZ)]
def S5:AV:=.agg (CS E5 I0 [] [])
def Zx (g:aA)(cl cn:List UInt8):AV:=.agg (CS (bk g cl) (bR g cl cn) (bq g (bR g cl cn).change) (bq g g.order))
variable{cl cn:List UInt8}
theorem vW (h:iR g cl cn=false):hU g cl cn=6:=if_pos h
theorem Jd (h:iR g cl cn=true)(h2:j4 g cl cn=false):hU g cl cn=1:=by unfold hU;rw[if_neg (by rw[h];decide),if_pos h2]
theorem S6 (h:iR g cl cn=true)(h2:j4 g cl cn=true):hU g cl cn=0:=by unfold hU;rw[if_neg (by rw[h];decide),if_neg (by rw[h2];decide)]
theorem UC (h:0≤eK (fun x:gE=>decide (x.name=cn)) (bk g cl).cells) :
  (bk g cl).cells.getD (eK (fun x:gE=>decide (x.name=cn)) (bk g cl).cells).toNat default=bR g cl cn∧(nh (bk g cl) cn).isSome=true:=by
 have:=qX (f:=fun x:gE=>x.name) (l:=(bk g cl).cells) (n:=cn);have h1:nh (bk g cl) cn=_:=this.1 h;unfold bR;rw[h1];exact⟨rfl,rfl⟩
theorem UD (h:eK (fun x:gE=>decide (x.name=cn)) (bk g cl).cells<0):(nh (bk g cl) cn).isSome=false:=by have:=qX (f:=fun x:gE=>x.name) (l:=(bk g cl).cells) (n:=cn);have h1:nh (bk g cl) cn=_:=this.2 h;rw[h1];rfl
theorem UE (h:(bq g (bR g cl cn).change).all bK=false):j4 g cl cn=false:=by unfold j4;rw[h,ab5];rfl
theorem UF (h:(bq g g.order).all bK=false):j4 g cl cn=false:=by unfold j4;rw[h,ab5]
theorem S7 (h:(fR g cl).isSome=false):iR g cl cn=false:=by unfold iR;rw[h];rfl
theorem XJ (h:eK (fun x:gE=>decide (x.name=cn)) (bk g cl).cells<0):iR g cl cn=false:=by unfold iR;rw[UD h,ab5];rfl
theorem S8 (h:ni g (bR g cl cn).change=false):iR g cl cn=false:=by unfold iR;rw[h,ab5];rfl
theorem S9 (h:ni g g.order=false):iR g cl cn=false:=by unfold iR;rw[h,ab5]
theorem Bt (h1:(fR g cl).isSome=true)(h2:(nh (bk g cl) cn).isSome=true)(h3:ni g (bR g cl cn).change=true)(h4:ni g g.order=true):iR g cl cn=true:=by unfold iR;rw[h1,h2,h3,h4];rfl
end Go.Wf
namespace Go.Am
theorem j5 {P:Program}{w0:Fr}{M0:Nat→Prop}{o:Oper}{ρ:Operand→Option SV}{α:Type} [Inhabited α]{f:α→AV}{l:List α}{ob:List (Nat×Ob)}{x y:Operand}{T e:TypeId}{c:fX}{k:Nat}{q:IntKind}{n:Int}{i:Nat}{z:α}(hz:l.getD i default=z)(ho:o.op=.indexAddr T x y)(hT:P.underlying T=some (.slice e))(hk:bX P e=some k)
 (hx:viewAt ρ ob x=some (c,.sl (l.map f)))(hy:bg ρ y=some (.int q n)) [hi:Ix n i](h:0≤n∧n<l.length)(hc:∀z,(AV.cells (f z)).length=k) :
 Pure P w0 M0 o ρ ob (.v c (.pc (AV.cells (f z)) 0)):=by subst hz;exact dh ho hT hk hx hy h hc
end Go.Am
namespace Go.Proofs.YtlapahnodhmcpaaGreat
open Go.Am Go.Wb Go.Wc Go.Wf Go.We
abbrev XK:=dT 2 Tryz.func140
theorem HE {r:aG}(h:LA r):au Tryz.prog 140 ([aZ r]++[]) (.p (bool (!bK r))):=by
 refine cF XK fun w0 M0 ae=>?_
 refine db [2,6] [3] [] ?_;refine oC J J J J (E0 (by have:=h.pairs;omega) (fun p hp=>abb (h.dst p hp) adj) (by have:=h.left;omega) (by have:=h.right;omega)) ?_;refine wZ [8005] ?_;rfl
abbrev XL:=dT 4 Tryz.func144
theorem HF {l:List aG}{p:aG→Bool}{g:FuncId}{caps:List AV}(hl:l.length≤1099511627776)(hf:∀x∈l,au Tryz.prog g ([aZ x]++caps) (.p (bool (p x)))):au Tryz.prog 144 [.sl (l.map aZ),.clo g caps] (.p (bool (l.any p))):=by
 refine cF XL fun w0 M0 ae=>?_
 refine db [9] [5,6] [] ?_;refine oC J J J J (yO hl hf) ?_;refine wZ [8005] ?_;rw[wH]
theorem yW {l:List aG}(hl:l.length≤1099511627776)(h:∀r∈l,LA r):au Tryz.prog 144 [.sl (l.map aZ),.clo 140 []] (.p (bool (!l.all bK))):=by have:=HF (p:=fun x=>!bK x) hl (fun x hx=>HE (h x hx));rwa [←List.not_all_eq_any_not] at this
theorem Zy:B2 Tryz.prog 95 Tryz.f95.ntmps 6 160 12 7 (Tryz.f95.body.getD .skip):=⟨Tryz.f95,Tryz.func95,rfl,rfl,rfl,adi,Wp,SK⟩
theorem Fq {g:aA}{cl:List UInt8}(hl:g.classes.length≤1099511627776):aV Tryz.prog 80 [cD g,ak cl] (.p (.tup [bj (bk g cl),bool (fR g cl).isSome])):=yN hl
theorem Bu {g:aA}{cl cn:List UInt8}(hg:mB g):aV Tryz.prog 95 [cD g,ak cl,ak cn] (.p (.tup [if hU g cl cn=0 then Zx g cl cn else S5,int (hU g cl cn)])):=by
 refine dA Zy (aaz J) fun w0 M0 ae=>?_
 refine db [2,0,8] [3,5,6,16,17] [6] ?_;refine oN J J J J J (Fq (by have:=hg.nclasses;omega)) ?_;refine wA [9] [3,5,6,8,9] [6,8] ?_;refine aD 105 [(3,_),(5,_),(6,_),(8,_),(9,_)] [(6,_)] ae J ⟨.inl J,.inl J,.inl J,.inr ⟨_,_,rfl,rfl,rfl⟩,.inl J,trivial⟩ ⟨rfl,trivial⟩ ?_;refine oJ [3,5000] ?_;refine oC J J J J (HB (l:=(bk g cl).cells) (p:=fun x=>decide (x.name=cn)) (by have:=(lz hg cl).cells;omega) (fun x hx=>HC)) ?_;refine wS [4009] [3,6,8,10,27] [6] ?_ ?_<;>intro h1';refine wA [8] [6] [6] ?_;refine oP J (ar (aK J pq nY J J J) J) ?_;refine wZ [6] ?_;refine bB J J ?_;rotate_left;refine wS [3005] [3,6,8,10,30] [6] ?_ ?_<;>intro h2;refine wA [3] [6] [6] ?_;refine oP J (ar (aK J pq nY J J J) J) ?_;refine wZ [6] ?_;refine bB J J ?_;rotate_left;have hX:=UC (g:=g) (cl:=cl) (cn:=cn) (by simp_all;first|done|omega);have hlt:=SR (p:=fun x:gE=>decide (x.name=cn)) (l:=(bk g cl).cells);refine wA [4] [3,6,8,10] [6] ?_;refine dC [7,8] [[(6,.box 160 [vvw (.sc (.string ⟨#[]⟩)),vvw (.sc (.int .i64 0)),vvv,vvv,vvw (.sc (.int .i64 0)),vvv,vvw (.sc (.string ⟨#[]⟩)),vvv,vvv,vvv,vvv,vvv])],[(6,.box 160 [vvw (.sc (.string ⟨#[]⟩)),vvw (.sc (.int .i64 0)),vvv,vvv,vvw (.sc (.int .i64 0)),vvv,vvw (.sc (.string ⟨#[]⟩)),vvv,vvv,vvv,vvv,vvv]),(11,.box 160 [vvw (.sc (.string ⟨#[]⟩)),vvw (.sc (.int .i64 0)),vvv,vvv,vvw (.sc (.int .i64 0)),vvv,vvw (.sc (.string ⟨#[]⟩)),vvv,vvv,vvv,vvv,vvv])],[(6,.box 160 [vvw (.sc (.string ⟨#[]⟩)),vvw (.sc (.int .i64 0)),vvv,vvv,vvw (.sc (.int .i64 0)),vvv,vvw (.sc (.string ⟨#[]⟩)),vvv,vvv,vvv,vvv,vvv]),(11,.box 160 [vvw (ak (bk g cl).name),vvw (int (bk g cl).fits.kind),vvw (ints (bk g cl).fits.syms),vvw (.sl (Rx.gv (bk g cl).fits.kids)),vvw (int (bk g cl).strip),vvw (.sl ((bk g cl).cells.map cu)),vvw (ak (bR g cl cn).name),vvw (ints (bR g cl cn).pre),vvw (ints (bR g cl cn).suf),vvw (strs (bR g cl cn).change),vvw (.sl []),vvw (.sl [])])]] 9 [] [(32,vvw (bj (bk g cl))),(33,vvw (.pc (o5 (bk g cl)) 5)),(34,vvw (.sl ((bk g cl).cells.map cu))),(35,vvw (int (eK (fun x:gE=>decide (x.name=cn)) (bk g cl).cells))),(36,vvw (.pc (E2 (bR g cl cn)) 0)),(37,vvw (cu (bR g cl cn))),(38,vvw (.agg (CS (bk g cl) (bR g cl cn) [] []))),(11,.pbox 11 0),(3,vvw (ng g)),(6,.pbox 6 0),(8,vvw (Oy (bk g cl))),(10,vvw (int (eK (fun x:gE=>decide (x.name=cn)) (bk g cl).cells)))] (ai (fun _=>(ar (aF J Un rm J (aaz J)) J)) (ai bV (ai bV (ai bV (ai (fun _=>(j5 (f:=cu) (l:=(bk g cl).cells) (z:=bR g cl cn) hX.1 J Tryz.underlying95 IP J J adh (fun _=>rfl))) (ai (fun _=>(ar (aF J SH IP J (aaz J)) J)) (ai (fun _=>(ar (aK J pq nY J J J) J)) trivial))))))) (ai (fun X eC dv cZ=>ij (t:=11) J J J J eC nY J J (fun t' z h hne=>fK (by rfl) (dv t' z h) hne) J ae) (ai (fun X eC dv cZ=>cz J (cy (u:=11) (v:=38) (id:=11) J J eC SK ((cZ 11 adj).trans J) J ((cZ 38 adj).trans J) J adj J J (fun t' z h=>cS (by rfl) (dv t' z h)) J ae)) (trivial))) ?_;refine bM (n:=0) adi ?_;refine bf adi ?_;refine hZ [13] [3,6,8,11,40,43] [6,11] ?_;refine oN J J J J J (yP (l:=(bR g cl cn).change) (by have:=hg.nrules;omega) (by have:=(jB hg cl cn).change;omega)) ?_;refine wA [13] [6,8,11,12,49,51] [6,11] ?_;refine oN J J J J J (yP (l:=g.order) (by have:=hg.nrules;omega) (by have:=hg.order;omega)) ?_;refine wS [4014] [6,8,11,13,58] [6,11] ?_ ?_<;>intro h3';refine wA [8] [6] [6] ?_;refine oP J (ar (aK J pq nY J J J) J) ?_;refine wZ [6] ?_;refine bB J J ?_;rotate_left;refine wS [3005] [6,8,11,61] [6,11] ?_ ?_<;>intro h4;refine wA [3] [6] [6] ?_;refine oP J (ar (aK J pq nY J J J) J) ?_;refine wZ [6] ?_;refine bB J J ?_;rotate_left;refine wS [4015] [6,8,11,14,66] [6,11] ?_ ?_<;>intro h5';refine wA [41] [6] [6] ?_;refine oP J (ar (aK J pq nY J J J) J) ?_;refine wZ [6] ?_;refine bB J J ?_;rotate_left;refine wS [4005] [6,8,11,14,71] [6,11] ?_ ?_<;>intro h6';refine wA [36] [6] [6] ?_;refine oP J (ar (aK J pq nY J J J) J) ?_;refine wZ [6] ?_;refine bB J J ?_;rotate_left;refine wA [3] [6,8,11,14,71,74] [6,11] ?_;refine oC J J J J (yS (w:=(bR g cl cn).pre) (by have:=(jB hg cl cn).pre;omega)) ?_;refine wS [4003] [6,8,11,14,78] [6,11] ?_ ?_<;>intro h7';refine wA [29] [6] [6] ?_;refine oP J (ar (aK J pq nY J J J) J) ?_;refine wZ [6] ?_;refine bB J J ?_;rotate_left;refine wA [3] [6,8,11,14,78,81] [6,11] ?_;refine oC J J J J (yS (w:=(bR g cl cn).suf) (by have:=(jB hg cl cn).suf;omega)) ?_;refine wS [4003] [6,8,11,14,85] [6,11] ?_ ?_<;>intro h8';refine wA [22] [6] [6] ?_;refine oP J (ar (aK J pq nY J J J) J) ?_;refine wZ [6] ?_;refine bB J J ?_;rotate_left;refine wA [2] [6,11,14,85,87] [6,11] ?_;refine oC J J J J (mA _ (bk g cl).fits (aaD _) (by have:=(lz hg cl).fits;omega)) ?_;refine wS [4003] [6,11,14,91] [6,11] ?_ ?_<;>intro h9';refine wA [16] [6] [6] ?_;refine oP J (ar (aK J pq nY J J J) J) ?_;refine wZ [6] ?_;refine bB J J ?_;rotate_left;refine wA [3] [6,11,14,91,93,94] [6,11] ?_;refine oC J J J J (yW (l:=bq g (bR g cl cn).change) (by have:=kN (g:=g) (l:=(bR g cl cn).change);have:=(jB hg cl cn).change;omega) (fun x hx=>hg.rules x (gX hx))) ?_;refine wS [4002] [6,11,14,97] [6,11] ?_ ?_<;>intro h10';refine wA [10] [6] [6] ?_;refine oP J (ar (aK J pq nY J J J) J) ?_;refine wZ [6] ?_;refine bB J J ?_;rotate_left;refine wA [3] [6,11,97,99,100] [6,11] ?_;refine oC J J J J (yW (l:=bq g g.order) (by have:=kN (g:=g) (l:=g.order);have:=hg.order;omega) (fun x hx=>hg.rules x (gX hx))) ?_;refine wS [3003] [6,11,102] [6,11] ?_ ?_<;>intro h11;refine wA [3] [6] [6] ?_;refine oP J (ar (aK J pq nY J J J) J) ?_;refine wZ [6] ?_;refine bB J J ?_;rotate_left;refine wZ [11] ?_;refine bB J J ?_;rotate_left
 all_goals
  first
   | (rw[vW (S7 adk)];exact⟨rfl,rfl⟩)
   | (rw[vW (XJ adh)];exact⟨rfl,rfl⟩)
   | (rw[vW (S8 adk)];exact⟨rfl,rfl⟩)
   | (rw[vW (S9 adk)];exact⟨rfl,rfl⟩)
   | (rw[Jd (Bt adk hX.2 adk adk) (UE adk)];exact⟨rfl,rfl⟩)
   | (rw[Jd (Bt adk hX.2 adk adk) (UF adk)];exact⟨rfl,rfl⟩)
   | (rw[Jd (Bt adk hX.2 adk adk) (by unfold j4;simp_all;first|done|omega)];exact⟨rfl,rfl⟩)
   | (rw[S6 (Bt adk hX.2 adk adk) (by unfold j4;simp_all;first|done|omega)];exact⟨rfl,rfl⟩)
end Go.Proofs.YtlapahnodhmcpaaGreat
