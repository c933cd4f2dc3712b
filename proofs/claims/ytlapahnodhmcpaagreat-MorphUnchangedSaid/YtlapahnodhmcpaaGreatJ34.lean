/-
  Part of the proof.
-/
import Derived.Test.YtlapahnodhmcpaaGreatJ0
import Derived.Test.YtlapahnodhmcpaaGreatJ16
import Derived.Test.YtlapahnodhmcpaaGreatJ33
import Derived.Test.YtlapahnodhmcpaaGreatJ23
set_option linter.unusedVariables false
set_option linter.unusedSectionVars false
set_option linter.unusedSimpArgs false
set_option maxRecDepth 100000
set_option maxHeartbeats 40000000
namespace Go.Proofs.YtlapahnodhmcpaaGreat
open Go.Am Go.Wb Go.Wc Go.Wf Go.We
theorem ph {g:aC}{x:cy}(hg:pF g)(hw:x.lemma_.length≤1099511627776):aU Tryz.prog 46 [cV g,ah x.class_,ints x.lemma_] (.p (.tup [bU (fl g x.class_ x.lemma_),int (cW g x.class_ x.lemma_)])):=Fs hg hw
theorem Zc:Qo Tryz.prog 13 Tryz.f13.ntmps 4 41 6 5 6 (Tryz.f13.body.getD .skip):=⟨Tryz.f13,Tryz.func13,rfl,rfl,rfl,acL,TQ,QA⟩
theorem KV {g:aC}{l:List cy}(hg:pF g)(hl:l.length≤1048576)(hL:∀x∈l,x.lemma_.length≤1048576):aU Tryz.prog 13 [cV g,.sl (l.map cS)] (.p (.tup [Hp (rE g l),int (qA g l),int (eE g l)])):=by
 refine wq Zc (aah J) fun w0 M0 aa=>?_
 refine pW [2,9,3003] [1,2,4,13] [4] ?_ ?_<;>intro h1;refine wA [3] [4] [4] ?_;refine oP J (au (aT J Vk TR J J J) J) ?_;refine wZ [7] ?_;refine uT J J J ?_;rotate_left;refine wA [14] [1,2,4,7] [4,7] ?_;refine bG 7 5 40 46 41 aa J J J J ?_;refine gz [5] [1,2,4,7,8] [4,7,40] ?_;refine lr (fun zl zo zm zs=>∃i:Nat,zm=l.length-i∧(i≤l.length)∧(∀j,j<i→decide (cW g (l.getD j default).class_ (l.getD j default).lemma_=0)=true)∧zs=eJ 51 [(8,vvw (int i))] zl [(7,.box 41 [vvw (.sl (g.sets.map jb)),vvw (.sl (g.rules.map bn)),vvw (.sl (g.classes.map bL)),vvw (strs g.order),vvw (.sl (l.map cS)),.own 40]),(40,.arr 46 ((aH g (l.take i)).map bU))] zo) ?_ ?_;exact⟨_,0,rfl,aan _,fun j hj=>absurd hj acK,rfl⟩;rintro zm zs ⟨i,rfl,aY,aq,rfl⟩;refine wS [5,3003] [1,2,4,7,8,21] [4,7,40] ?_ ?_<;>intro h2;refine wA [2006,6003,6004,2] [1,2,4,7,8,25,30,35] [4,7,40] ?_;refine oF J J J J J J J (ph (x:=(l.getD i default)) hg (by have:=hL _ (aM (show i<l.length by omega));omega)) ?_;refine wS [3014] [1,2,4,7,8,9,10,40] [4,7,40] ?_ ?_<;>intro h3;refine wA [3] [4,8,10] [4] ?_;refine oP J (au (aT J Vk TR J J J) J) ?_;refine wZ [14] ?_;refine uT J J J ?_;rotate_left;refine wZ [7,5000] ?_;refine oS J (step_append J J J J Tryz.underlying39 Vm J J aa (cI J (bW (by rfl))) (by rw[aai,l3,aau];simp only[aam,aat];omega) (by rw[aai,l3,aau];simp only[aam,aat];omega)) J ?_;refine wA [7,9002] [1,2,4,7,8] [4,7,40] ?_;exact⟨_,⟨i+1,rfl,acK,fP aq (decide_eq_true acK),by rw[zb acK,aas];rfl⟩,acK⟩;refine wA [7] [4,7] [4,7,40] ?_;refine aI 51 [(4,_),(7,_)] [(4,_)] aa J ⟨.inl J,.inr ⟨_,_,rfl,rfl,rfl⟩,trivial⟩ ⟨rfl,trivial⟩ ?_;refine xP [8] ?_;refine uT J J J ?_;rotate_left
 all_goals
  first
   | (rw[OK (mE acK).2 acM,(mE (g:=g) (l:=l) acK).1,(mE (g:=g) (l:=l) acK).2];exact⟨rfl,rfl,rfl⟩)
   | (have hh:=I3 (g:=g) (l:=l) (i:=i) acK acK aq acN;rw[OK hh.2 acN,hh.1,hh.2];exact⟨rfl,rfl,rfl⟩)
   | (have hh:=I4 (g:=g) (l:=l) (i:=i) acK acK aq;rw[C2 hh.2,hh.1,hh.2,aaB acK];exact⟨rfl,rfl,rfl⟩)
abbrev Zd:=dF 2 Tryz.func34
theorem KW {m:CQ}(hF:sF m.f):aU Tryz.prog 34 [Hp m] (.p (ly (og m.f))):=by
 refine cN Zd fun w0 M0 aa=>?_
 refine c4 [2,5] [1] [] ?_;refine oP J (au (hU J J) J) ?_;refine wA [9] [1,3,4] [] ?_;refine lp (fun zm zs=>∃i:Nat,zm=m.f.length-i∧(i≤m.f.length)∧zs=⟨35,[(1,vvw (W4 m)),(3,vvw (ly (ko m.f i 0))),(4,vvw (int i))],[]⟩) ?_ ?_;exact⟨_,0,rfl,aan _,rfl⟩;rintro zm zs ⟨i,rfl,aY,rfl⟩;have hfn:=hF.n;have hrow:=fun h:i<m.f.length=>hF.row (m.f.getD i default) (aM h)
 refine wS [6,3003] [1,3,4,10] [] ?_ ?_<;>intro h1;refine wA [11] [1,3,4,5] [] ?_;refine lr (fun zl zo zm zs=>∃k:Nat,zm=(m.f.getD i default).length-k∧(k≤(m.f.getD i default).length)∧zs=eJ 35 [(3,vvw (ly (ko m.f i k))),(5,vvw (int k))] zl [] zo) ?_ ?_;exact⟨_,0,rfl,aan _,rfl⟩;rintro zm zs ⟨k,rfl,fu,rfl⟩;have hrw:=hrow acK;have hb:=aaO (OI m.f i k) (pg hF acK acK);refine wS [7,1,3003] [1,3,4,5,20] [] ?_ ?_<;>intro h2;refine wA [10,2,2] [1,4,5,23,32] [] ?_;refine oN J J J J J (Ho (l:=ko m.f i k) (x:=(a8 m.f (i,k)).af) acK (fun z hz=>aaO (Hx hF i k z hz) acM) (by have:=(gP hF (i,k)).af;omega)) ?_;refine wA [6,9002] [1,3,4,5] [] ?_;exact⟨_,⟨k+1,rfl,acK,by rw[OH];rfl⟩,acK⟩;refine wA [9,9002] [1,3,4] [] ?_;obtain rfl:k=(m.f.getD i default).length:=acK;exact⟨_,⟨i+1,rfl,acK,by rw[←Rb J];rfl⟩,acK⟩;refine wZ [8013] ?_;rw[show i=m.f.length by omega];rfl
abbrev Ze:=dF 4 Tryz.func40
theorem FA {a b:List aK}(ha:a.length≤1000)(hb:b.length≤1000)(hA:∀x∈a,zx x)(hB:∀x∈b,zx x):ak Tryz.prog 40 [bU a,bU b] (.p (bool (lv a b))):=by
 refine cF Ze fun w0 M0 aa=>?_
 refine pW [9,1,3003] [0,1,10] [] ?_ ?_<;>intro h1;refine wZ [8008] ?_;rotate_left;refine wA [10] [0,1,5] [] ?_;refine lr (fun zl zo zm zs=>∃k:Nat,zm=a.length-k∧(k≤a.length)∧(∀j,j<k→decide (kf (a.getD j default)=kf (b.getD j default))=true)∧zs=eJ 42 [(5,vvw (int k))] zl [] zo) ?_ ?_;exact⟨_,0,rfl,aan _,fun j hj=>absurd hj acK,rfl⟩;rintro zm zs ⟨k,rfl,aY,aq,rfl⟩;refine wS [5,3003] [0,1,5,14] [] ?_ ?_<;>intro h2;refine wS [2006,6002,6004,6002,7001] [0,1,5,28] [] ?_ ?_<;>intro h3';refine wZ [8027] ?_;rotate_left;refine wA [6002,6004,2] [0,1,5,28,33,38] [] ?_;refine oE J J J J J J (gp (a:=(a.getD k default).af) (b:=(b.getD k default).af) (by have:=(hA _ (aM (show k<a.length by omega))).af;omega) (by have:=(hB _ (aM (show k<b.length by omega))).af;omega)) ?_;refine wS [3004] [0,1,5,41] [] ?_ ?_<;>intro h4;refine wZ [8012] ?_;rotate_left;refine wA [6,9002] [0,1,5] [] ?_;exact⟨_,⟨k+1,rfl,acK,fP aq (decide_eq_true (by unfold kf;simp_all)),rfl⟩,acK⟩;refine wZ [8012] ?_;rotate_left
 all_goals
  first|(rw[SF acK];done)|(rw[SH (k:=k) acK acK aq];done)|(rw[OJ (k:=k) (by simp_all)];done)
end Go.Proofs.YtlapahnodhmcpaaGreat
namespace Go.Wf
open Go.Am Go.Wb Go.Wc
def fy (F:List (List aK))(i:Int):List aK:=if i<0∨(F.length:Int)≤i then[] else F.getD i.toNat default
variable{F:List (List aK)}
theorem C3 {i:Int}(h:i<0∨(F.length:Int)≤i):fy F i=[]:=if_pos h
theorem rk {i:Int}(h:¬(i<0∨(F.length:Int)≤i)):fy F i=F.getD i.toNat default:=if_neg h
noncomputable def cq (F:List (List aK))(w:List Int):List (Nat×Nat):=atKey F (aO F F.length 0) (KS (qz w))
noncomputable def ki (F:List (List aK))(w:List Int):List mF:=(cq F w).map fun p=>⟨(p.1:Nat),a8 F p⟩
theorem FB {p:Nat×Nat}(h:p∈aO F F.length 0):p.1<F.length∧p.2<(F.getD p.1 default).length:=by unfold aO at h;rw[List.range_zero,abu,aaP,abP] at h;obtain⟨a,ha,h⟩:=h;obtain⟨b,hb,rfl⟩:=aaG.1 h;exact⟨aaI.1 ha,aaI.1 hb⟩
theorem FC {w:List Int}{p:Nat×Nat}(h:p∈cq F w):p.1<F.length∧p.2<(F.getD p.1 default).length:=by unfold cq atKey at h;exact FB (aa9.1 h).1
theorem FD (hF:sF F)(w:List Int):(cq F w).length≤1001000:=by refine aaO ?_ (pg hF (aak F.length) (aan _));unfold cq atKey;exact abx _ _
theorem FE (F:List (List aK))(w:List Int):(s5 (.sc (.slice none 0 0)) (je F (aO F F.length 0)) ((mD F (aO F F.length 0)).map AV.sl) (KS (qz w))).norm=.sl ((cq F w).map jz):=by rw[OE (mQ _ _),y9];rfl
theorem I8 {w:List Int}{k:Nat}(h:k<(cq F w).length):(ki F w).getD k default=⟨(((cq F w).getD k default).1:Nat),a8 F ((cq F w).getD k default)⟩:=by unfold ki;rw[aag,aap,aal h,aag,aal h];rfl
theorem FF (F:List (List aK))(w:List Int):(ki F w).length=(cq F w).length:=aai _
end Go.Wf
namespace Go.Proofs.YtlapahnodhmcpaaGreat
open Go.Am Go.Wb Go.Wc Go.Wf Go.We
abbrev Zf:=dF 2 Tryz.func18
variable{l:List cy}{F:List (List aK)}
theorem u9 (hl:l.length≤1099511627776):aU Tryz.prog 18 [pD l F] (.p (int l.length)):=by
 refine cN Zf fun w0 M0 aa=>?_
 refine AD [8,2,8004] ?_;rfl
abbrev Zg:=dF 4 Tryz.func16
theorem fm {i:Int}(hF:sF F):aU Tryz.prog 16 [pD l F,int i] (.p (bU (fy F i))):=by
 have XF:=hF.n;have hrow:=fun h:i.toNat<F.length=>hF.row (F.getD i.toNat default) (aM h)
 refine cN Zg fun w0 M0 aa=>?_
 refine pW [4011] [0,1,10] [] ?_ ?_<;>intro h1';refine wZ [8018] ?_;rotate_left;refine wS [2,2,3004] [0,1,18] [] ?_ ?_<;>intro h2;refine wZ [8008] ?_;rotate_left;refine wA [1005,6,3,1,4] [5,25,26,27] [5] ?_;have hrw:=hrow acK;refine lr (fun zl zo zm zs=>∃k:Nat,zm=(F.getD i.toNat default).length-k∧(k≤(F.getD i.toNat default).length)∧zs=eJ 38 [(27,vvw (int k))] zl [(5,.arr 64 (((F.getD i.toNat default).take k).map fQ))] zo) ?_ ?_;exact⟨_,0,rfl,aan _,rfl⟩;rintro zm zs ⟨k,rfl,aY,rfl⟩;refine wS [3006] [5,25,26,27,28] [5] ?_ ?_<;>intro h3;refine wA [7,8] [25,26,27,31,32] [5] ?_;refine oN J J J J J (Fw (gP hF (i.toNat,k))) ?_;refine wA [0,1000,5,9002] [5,25,26,27] [5] ?_;exact⟨_,⟨k+1,rfl,acK,by rw[take_succ acK,aas];rfl⟩,acK⟩;refine wA [7] [5] [5] ?_;refine aI 38 [(5,_)] [] aa J ⟨.inr ⟨_,_,rfl,rfl,rfl⟩,trivial⟩ trivial ?_;refine xP [8006] ?_;rotate_left
 all_goals
  first|(rw[C3 acK];first|done|rfl)|(rw[rk acK,show k=(F.getD i.toNat default).length by omega,abj];first|done|rfl)
abbrev Zh:=dF 4 Tryz.func73
theorem FG {f g:aK}(hf:zx f)(hg:zx g):ak Tryz.prog 73 [fQ f,fQ g] (.p (bool (decide (kf f=kf g)))):=by
 have hf1:=hf.af;have hg1:=hg.af;refine cF Zh fun w0 M0 aa=>?_
 refine pW [2,0,9,4001] [2,3,10] [] ?_ ?_<;>intro h1';refine wA [4] [10,12,14] [] ?_;refine oC J J J J (qu acK acK) ?_;refine wZ [8005] ?_;rotate_left;refine wZ [8010] ?_;rotate_left
 all_goals
  unfold kf;simp_all
abbrev Zi:=dF 6 Tryz.func72
theorem C4 {a b:List aK}(ha:a.length≤1000)(hb:b.length≤1000)(hA:∀x∈a,zx x)(hB:∀x∈b,zx x):aU Tryz.prog 72 [bU a,bU b,.clo 73 []] (.p (bool (lv a b))):=by
 refine cN Zi fun w0 M0 aa=>?_
 refine pW [9,1,3003] [0,1,2,14] [] ?_ ?_<;>intro h1;refine wZ [8008] ?_;rotate_left;refine wA [7,4] [1,2,15,16,17] [] ?_;refine lr (fun zl zo zm zs=>∃k:Nat,zm=a.length-k∧(k≤a.length)∧(∀j,j<k→decide (kf (a.getD j default)=kf (b.getD j default))=true)∧zs=eJ 32 [(17,vvw (int k))] zl [] zo) ?_ ?_;exact⟨_,0,rfl,aan _,fun j hj=>absurd hj acK,rfl⟩;rintro zm zs ⟨k,rfl,aY,aq,rfl⟩;refine wS [3006] [1,2,15,16,17,18] [] ?_ ?_<;>intro h2;refine wA [8,10,10] [1,2,15,16,17,26,27,28] [] ?_;refine oC J J J J (FG (hA _ (aM (show k<a.length by omega))) (hB _ (aM (show k<b.length by omega)))) ?_;refine wS [3003] [1,2,15,16,17,30] [] ?_ ?_<;>intro h3;refine wZ [8012] ?_;rotate_left;refine wA [5,9002] [1,2,15,16,17] [] ?_;exact⟨_,⟨k+1,rfl,acK,fP aq (by simp_all),rfl⟩,acK⟩;refine wZ [8012] ?_;rotate_left
 all_goals
  first|(rw[SF acK];done)|(rw[SH (k:=k) acK acK aq];done)|(rw[OJ (k:=k) (by unfold kf at *;simp_all)];done)
variable{g:aC}
theorem Bx (hg:pF g)(hl:l.length≤1048576)(hL:∀x∈l,x.lemma_.length≤1048576)(h:eE g l≠0):aU Tryz.prog 12 [cV g,.sl (l.map cS)] (.p (.tup [.sc (.pointer none),int (qA g l),int (eE g l)])):=by have:=tX hg hl hL;rwa [show C1 g l=.sc (.pointer none) from if_neg h] at this
theorem vd (hg:pF g)(hl:l.length≤1048576)(hL:∀x∈l,x.lemma_.length≤1048576)(h:eE g l=0):aU Tryz.prog 12 [cV g,.sl (l.map cS)] (.p (.tup [pD l (aH g l),int (qA g l),int 0])):=by have:=tX hg hl hL;rwa [show C1 g l=pD l (aH g l) from if_pos h,h] at this
theorem Xh:F7 Tryz.prog 37 Tryz.f37.ntmps 4 5 (Tryz.f37.body.getD .skip):=⟨Tryz.f37,Tryz.func37,rfl,rfl,rfl,acL⟩
theorem zV (hg:pF g)(hl:l.length≤1048576)(hL:∀x∈l,x.lemma_.length≤1048576)(h:eE g l≠0):aU Tryz.prog 37 [pD l F,cV g] (.p (.tup [.sl [],int (eE g l)])):=by
 refine eD Xh (aah J) fun w0 M0 aa=>?_
 refine c4 [2,2005,6002,2] [0,13,17] [] ?_;refine oF J J J J J J J (Bx hg hl hL h) ?_;refine wA [13] [0,6,8,22] [] ?_;refine oP J (bj (b':=true) (cZ J J J) (by simp[h])) ?_;refine wZ [12] ?_;refine cu J J ?_;exact⟨rfl,rfl⟩
theorem zW (hg:pF g)(hl:l.length≤1048576)(hL:∀x∈l,x.lemma_.length≤1048576)(hF:sF F)(hn:F.length=l.length)(h:eE g l=0):aU Tryz.prog 37 [pD l F,cV g] (.p (.tup [ints (lD F (aH g l) F.length),int 0])):=by
 have hlen:=KU h;have Uj:sF (aH g l):=oe hg acK;have hfl:=l3 (g:=g) l;refine eD Xh (aah J) fun w0 M0 aa=>?_
 refine c4 [2,2005,6002,2] [0,13,17] [] ?_;refine oF J J J J J J J (vd hg hl hL h) ?_;refine wA [13] [0,6,8,22] [] ?_;refine oP J (bj (b':=false) (cZ J J J) (rfl)) ?_;refine wA [1007,6,2,4] [6,9,28,29,30] [9] ?_;refine lr (fun zl zo zm zs=>∃i:Nat,zm=F.length-i∧(i≤F.length)∧zs=eJ 51 [(30,vvw (int i))] zl [(9,.arr 3 ((lD F (aH g l) i).map int))] zo) ?_ ?_;exact⟨_,0,rfl,aan _,rfl⟩;rintro zm zs ⟨i,rfl,aY,rfl⟩;have hcl:=I7 F (aH g l) i;refine wS [3006] [6,9,28,29,30,31] [9] ?_ ?_<;>intro h1;refine wA [8,9,3,1] [6,9,10,28,29,30,35,42] [9] ?_;refine oN J J J J J (C4 (a:=F.getD i default) (b:=(aH g l).getD i default) (hF.row _ (aM acK)) (Uj.row _ (aM acK)) (hF.form _ (aM acK)) (Uj.form _ (aM acK))) ?_;refine wS [3003] [6,9,10,28,29,30,44] [9] ?_ ?_<;>intro h2;refine wA [4,1000,5,9002] [6,9,28,29,30] [9] ?_;rotate_left;refine wA [5,9002] [6,9,28,29,30] [9] ?_;rotate_left;refine wA [7] [9] [9] ?_;refine aI 51 [(9,_)] [] aa J ⟨.inr ⟨_,_,rfl,rfl,rfl⟩,trivial⟩ trivial ?_;refine xP [7] ?_;refine cu J J ?_;rw[show i=F.length by omega];exact⟨rfl,rfl⟩
 all_goals
  exact⟨_,⟨i+1,rfl,acK,by first|(rw[Rc (by simp_all),aas];rfl)|(rw[Ui (by simp_all)];rfl)⟩,acK⟩
theorem tZ (hg:pF g)(hl:l.length≤1048576)(hL:∀x∈l,x.lemma_.length≤1048576)(hF:sF F)(hn:F.length=l.length):aU Tryz.prog 37 [pD l F,cV g] (.p (.tup [ints (tY g l F),int (eE g l)])):=by
 by_cases h:eE g l=0
 ·rw[zc h,h];exact zW hg hl hL hF hn h
 ·rw[Re h];exact zV hg hl hL h
abbrev Zj:=dF 4 Tryz.func22
theorem ua {w:List Int}(hF:sF F)(hw:w.length≤1048576):aU Tryz.prog 22 [pD l F,ints w] (.p (.sl ((ki F w).map zU))):=by
 have hal:=FD hF w;have XF:=hF.n;have hpl:=FF F w;refine cN Zj fun w0 M0 aa=>?_
 refine c4 [1007,2004,6001,3] [0,5,11,12] [5] ?_;refine oE J J J J J J (u5 (w:=w) acK) ?_;refine oD J J J (au (xl J Tryz.underlying100 Tryz.underlying9 N0 J J J trivial (tW F (aO F F.length 0)) J) (FE F w)) ?_;refine wA [6000,4] [0,5,14,15,16] [5] ?_;refine lr (fun zl zo zm zs=>∃k:Nat,zm=(cq F w).length-k∧(k≤(cq F w).length)∧zs=eJ 41 [(16,vvw (int k))] zl [(5,.arr 69 (((ki F w).take k).map zU))] zo) ?_ ?_;exact⟨_,0,rfl,aan _,rfl⟩;rintro zm zs ⟨k,rfl,aY,rfl⟩;refine wS [3006] [0,5,14,15,16,17] [5] ?_ ?_<;>intro h1;have hpm:=FC (w:=w) (aM (show k<(cq F w).length by omega));refine wA [7,5] [0,5,7,14,15,16] [5,7] ?_;refine dC [18] [[(5,.arr 69 (((ki F w).take k).map zU)),(7,.box 107 [vvw (int ((cq F w).getD k default).1),vvw (int ((cq F w).getD k default).2)])],[(7,.box 107 [vvw (int ((cq F w).getD k default).1),vvw (int ((cq F w).getD k default).2)]),(38,.arr 69 (((ki F w).take k).map zU++[zU (⟨(((cq F w).getD k default).1:Nat),a8 F ((cq F w).getD k default)⟩:mF)]))]] 19 [(0,[0]),(1,[0]),(2,[0]),(7,[0]),(8,[0]),(11,[0]),(12,[0])] [(20,.own 5),(21,.pbox 7 0),(22,vvw (int ((cq F w).getD k default).1)),(23,vvw (pD l F)),(24,vvw (pD l F)),(25,vvw (.pc (XE l F) 1)),(26,vvw (.sl (F.map bU))),(27,.pbox 7 0),(28,vvw (int ((cq F w).getD k default).1)),(29,vvw (.pc [bU (F.getD ((cq F w).getD k default).1 default)] 0)),(30,vvw (bU (F.getD ((cq F w).getD k default).1 default))),(31,.pbox 7 1),(32,vvw (int ((cq F w).getD k default).2)),(33,vvw (.pc (EP (a8 F ((cq F w).getD k default))) 0)),(34,vvw (fQ (a8 F ((cq F w).getD k default)))),(35,vvw (fQ (a8 F ((cq F w).getD k default)))),(36,vvw (zU (⟨(((cq F w).getD k default).1:Nat),a8 F ((cq F w).getD k default)⟩:mF))),(37,vvw (.sl [zU (⟨(((cq F w).getD k default).1:Nat),a8 F ((cq F w).getD k default)⟩:mF)])),(38,.own 38),(0,vvw (pD l F)),(5,.own 5),(7,.pbox 7 0),(14,vvw (.sl ((cq F w).map jz))),(15,vvw (int (cq F w).length)),(16,vvw (int k))] (ai (ai nH (trivial)) (ai (ai nH (trivial)) (ai (ai (ae J Sb J J J) (trivial)) (ai bS (ai bS (ai bS (ai bS (ai (ai nH (trivial)) (ai (ai (ae J Sb J J J) (trivial)) (ai (fun _=>(gF (f:=bU) (l:=F) (i:=((cq F w).getD k default).1) (z:=(F.getD ((cq F w).getD k default).1 default)) J J Tryz.underlying39 Vl J J acK (fun _=>rfl))) (ai bS (ai (ai nH (trivial)) (ai (ai (ae J Sb J J J) (trivial)) (ai (fun _=>(gF (f:=fQ) (l:=(F.getD ((cq F w).getD k default).1 default)) (i:=((cq F w).getD k default).2) (z:=a8 F ((cq F w).getD k default)) J J Tryz.underlying46 GW J J acK (fun _=>rfl))) (ai (fun _=>(au (aG J QB GW J (aah J)) J)) (ai (fun _=>(bC J J J J (Fw (gP hF ((cq F w).getD k default))) aa)) (ai bS (ai bS trivial)))))))))))))))))) (ai (fun X e7 dH c6=>dd (T:=55) (t:=38) (u:=20) (id:=5) (y:=.tmp 37) J J J e7 Tryz.underlying55 Yw ((c6 20 acM).trans J) J (cI (jX ((c6 37 acM).trans J)) (bW (by rfl))) (by rw[aai,aau];simp only[aam,aat];omega) (by rw[aai,aau];simp only[aam,aat];omega) J dH J J J aa) (trivial)) ?_;refine bM (n:=1) acL ?_;refine xe 19 ?_;refine bf acL ?_;refine iS [2] [0,5,14,15,16] [38] ?_;refine ao.imp (tg 5 5 aa J J J J) ?_;refine gz [1,9002] [0,5,14,15,16] [5] ?_;exact⟨_,⟨k+1,rfl,acK,by rw[take_succ acK,aas,I8 acK];rfl⟩,acK⟩;refine wA [7] [5] [5] ?_;refine aI 41 [(5,_)] [] aa J ⟨.inr ⟨_,_,rfl,rfl,rfl⟩,trivial⟩ trivial ?_;refine xP [8006] ?_;rw[show k=(ki F w).length by omega,abj]
end Go.Proofs.YtlapahnodhmcpaaGreat
namespace Go.Wf
open Go.Am Go.Wb Go.Wc
theorem Rf (l:List Int)(x:Int):l.any (fun y=>decide (x=y))=yW l x:=by unfold yW;congr 1;funext y;exact decide_eq_decide.2 ⟨Eq.symm,Eq.symm⟩
theorem ve {F:List (List aK)}{w:List Int}{k:Nat}(h:k<(cq F w).length):((ki F w).getD k default).form=a8 F ((cq F w).getD k default):=by rw[I8 h]
def cJ (l:List mF)(k:Nat):List Int:=if k=0 then[] else(l.getD 0 default).form.cuts.filter fun c=>(l.take k).all fun a=>yW a.form.cuts c
theorem OL {l:List Int}{x:Int}(h:x∈l):yW l x=true:=aaQ.2 ⟨x,h,decide_eq_true rfl⟩
theorem Zk {l:List mF}(h:0<l.length):cJ l 1=(l.getD 0 default).form.cuts:=by
 unfold cJ;rw[if_neg acM,acx];intro c hc
 match l,h with
 | a :: l, _ =>
   show List.all [a] _=true;simp only[List.all_cons,List.all_nil,Bool.and_true];exact OL hc
theorem Rg {l:List mF}{k:Nat}(h0:k≠0)(h:k<l.length):cJ l (k+1)=(cJ l k).filter fun c=>yW (l.getD k default).form.cuts c:=by
 unfold cJ;rw[if_neg acK,if_neg h0,List.filter_filter]
 congr 1;funext c
 rw[all_succ h,Bool.and_comm]
theorem Uk (l:List mF)(k:Nat):(cJ l k).length≤(l.getD 0 default).form.cuts.length:=by
 unfold cJ;split
 ·exact aan _
 ·exact abx _ _
section
variable {α:Type} [Inhabited α]{l ys:List α}{p:α→Bool}{j k:Nat}
theorem OM (h:∀q,q<k→p (l.getD q default)=false)(hk:k≤l.length):(l.take k).filter (fun x=>!p x)=l.take k:=by rw[acx];intro x hx;obtain⟨q,hq,rfl⟩:=List.mem_iff_getElem.1 hx;rw[aau] at hq;have:=h q acK;rw[List.getElem_take,show l[q]'acK=l.getD q default from(eh acK).symm,this];rfl
theorem I9 (hj:j<l.length)(h:p (l.getD j default)=true):(l.take (j+1)).filter (fun x=>!p x)=(l.take j).filter fun x=>!p x:=by rw[take_succ hj,abq,abb,if_neg (by rw[h];decide),abV,aaP]
theorem Ul (hj:j<l.length)(h:p (l.getD j default)=false):(l.take (j+1)).filter (fun x=>!p x)=(l.take j).filter (fun x=>!p x)++[l.getD j default]:=by rw[take_succ hj,abq,abb,if_pos (by rw[h];rfl),abV]
theorem Rh (hk:k<ys.length)(hj:j<l.length)(hp:p (l.getD j default)=false)(h:(l.take j).filter (fun x=>!p x)=ys.take k):(l.take (j+1)).filter (fun x=>!p x)=(ys.set k (l.getD j default)).take (k+1):=by rw[Ul hj hp,h,rM hk]
theorem Ri {f:α→AV}{X:List AV}(hk:k≤ys.length)(hj:l.length≤j)(h:(l.take j).filter (fun x=>!p x)=ys.take k):((ys.map f).take k++X).take k=(l.filter fun x=>!p x).map f:=by rw[List.take_append_of_le_length (by simp;omega),List.take_take,Nat.min_self,←List.map_take,←h,aaB hj]
theorem ON:eB p l=-1→l.any p=false:=by
 unfold eB;split
 ·intro h;omega
 ·next h=>intro _;simpa using h
theorem Rj (h:¬eB p l=-1):∃q:Nat,eB p l=q∧q<l.length∧(∀j,j<q→p (l.getD j default)=false)∧p (l.getD q default)=true:=by
 have ha:l.any p=true:=by
  cases hq:l.any p
  ·exact absurd (by unfold eB;rw[hq];rfl) h
  ·rfl
 have hlt:l.findIdx p<l.length:=List.findIdx_lt_length.2 (aaQ.1 ha);refine⟨l.findIdx p,by unfold eB;rw[if_pos ha],hlt,fun j hj=>?_,?_⟩
 ·rw[eh (Nat.lt_trans hj hlt)];simpa using List.not_of_lt_findIdx hj
 ·rw[eh hlt];exact List.findIdx_getElem
theorem Rk:-1≤eB p l∧eB p l≤l.length:=by
 unfold eB;split
 ·have:=List.findIdx_le_length (xs:=l) (p:=p);omega
 ·omega
theorem OO (h:l.any p=false):l.filter (fun x=>!p x)=l:=by
 rw[acx];intro x hx;rw[abH] at h;have:=h x hx;cases hp:p x
 ·rfl
 ·exact absurd hp this
end
end Go.Wf
namespace Go.Proofs.YtlapahnodhmcpaaGreat
open Go.Am Go.Wb Go.Wc Go.Wf Go.We
abbrev Zl:=dF 4 Tryz.func85
variable{l:List Int}{x:Int}
theorem Hy (hl:l.length≤1099511627776):ak Tryz.prog 85 [ints l,int x] (.p (int (eB (fun y=>decide (x=y)) l))):=by
 refine cF Zl fun w0 M0 aa=>?_
 refine c4 [9,4] [0,1,7,8] [] ?_;refine lr (fun zl zo zm zs=>∃k:Nat,zm=l.length-k∧(k≤l.length)∧(∀j,j<k→decide (x=l.getD j default)=false)∧zs=eJ 19 [(8,vvw (int k))] zl [] zo) ?_ ?_;exact⟨_,0,rfl,aan _,fun j hj=>absurd hj acK,rfl⟩;rintro zm zs ⟨k,rfl,aY,aq,rfl⟩;refine wS [3006] [0,1,7,8,9] [] ?_ ?_<;>intro h1;refine wS [16,3004] [0,1,5,7,8,16] [] ?_ ?_<;>intro h2;refine wZ [8013] ?_;rw[←nJ (p:=fun y=>decide (x=y)) (l:=l) (k:=k) acK aq (by simp_all)];refine wA [5,9002] [0,1,7,8] [] ?_;exact⟨_,⟨k+1,rfl,acK,bX aq (by simp_all),rfl⟩,acK⟩;refine wZ [8012] ?_;rw[←lT (p:=fun y=>decide (x=y)) (l:=l) (fun j hj=>aq j acK)]
abbrev Zm:=dF 4 Tryz.func54
theorem zX (hl:l.length≤1099511627776):ak Tryz.prog 54 [ints l,int x] (.p (bool (yW l x))):=by
 refine cF Zm fun w0 M0 aa=>?_
 refine c4 [9] [5,6] [] ?_;refine oC J J J J (Hy hl) ?_;refine wZ [8005] ?_;rw[wE,Rf]
abbrev Zn:=dF 3 Tryz.func53
theorem Hz (hl:l.length≤1099511627776):ak Tryz.prog 53 ([int x]++[.pc [ints l] 0]) (.p (bool (!yW l x))):=by
 refine cF Zn fun w0 M0 aa=>?_
 refine c4 [9] [4,5] [] ?_;refine oC J J J J (zX hl) ?_;refine wZ [8005] ?_;rfl
abbrev Zo:=dF 4 Tryz.func52
theorem FH {p:Int→Bool}{g:FuncId}{caps:List AV}(hl:l.length≤1099511627776)(hf:∀x∈l,ak Tryz.prog g ([int x]++caps) (.p (bool (p x)))) :
  lz Tryz.prog 52 [.own 0,vvw (.clo g caps)] [(0,.arr 3 (l.map int))] (.own 0) [(0,.arr 3 ((l.filter fun x=>!p x).map int))]:=by
 have hib:=Rk (p:=p) (l:=l);refine gK Zo (aah J) fun w0 M0 aa=>?_
 refine c4 [9] [0,1,8,9] [0] ?_;refine oC J J J J (Bd hl hf) ?_;refine wS [3010] [0,1,5,12] [0] ?_ ?_<;>intro h1;refine wZ [9] ?_;refine ew (o1:=[(0,_)]) J ⟨rfl,trivial⟩ ?_;rw[OO (ON h1)];exact⟨rfl,rfl⟩;refine wA [7,4] [0,1,5,6] [0] ?_;obtain⟨q,hq,hql,hq1,hq2⟩:=Rj (p:=p) (l:=l) acK;refine lp (fun zm zs=>∃(ys:List Int)(k j:Nat),zm=l.length-j∧(j≤l.length)∧(ys.length=l.length)∧((l.take j).filter (fun x=>!p x)=ys.take k)∧(k+1≤j)∧(∀i,j≤i→ys.getD i default=l.getD i default)∧zs=⟨42,[(0,.own 0),(1,vvw (.clo g caps)),(5,vvw (int k)),(6,vvw (int j))],[(0,.arr 3 (ys.map int))]⟩) ?_ ?_;rw[hq];exact⟨_,l,q,q+1,rfl,acK,rfl,(I9 hql hq2).trans (OM hq1 acK),aak _,fun i _=>rfl,rfl⟩;rintro zm zs ⟨ys,k,j,rfl,aY,aq,cY,IK,By,rfl⟩;refine wS [5,3003] [0,1,5,6,19] [0] ?_ ?_<;>intro h2;refine wA [9,0,7] [0,1,5,6,7,26,27] [0] ?_;refine oC J J J J (hf _ (by rw[abC,By j (aak _)];exact aM acK)) ?_;refine wS [3003] [0,1,5,6,7,29] [0] ?_ ?_<;>intro h3;refine wZ [6,5000] ?_;refine oS J (ay J J J wu J J (iC (by first|(simp only[ll];omega)|omega)) J J (.inl J) J (aah J) aa) J ?_;refine wA [4,6,9002] [0,1,5,6] [0] ?_;rw[By j (aak _)] at h3;refine⟨_,⟨ys.set k (l.getD j default),k+1,j+1,rfl,acK,by simpa using aq,Rh acK acK h3 cY,acK,fun i hi=>?_,?_⟩,acK⟩
 ·rw[lK acK];exact By i acK
 ·rw[List.map_set,←By j (aak _)];rfl
 refine wA [6,9002] [0,1,5,6] [0] ?_;rw[By j (aak _)] at h3;exact⟨_,⟨ys,k,j+1,rfl,acK,aq,(I9 acK h3).trans cY,acK,fun i hi=>By i acK,rfl⟩,acK⟩;refine wA [10] [0,5,36,37] [0] ?_;refine oP J (dU J Tryz.underlying22 wu J J J (by first|(simp only[ll];omega)|omega)) ?_;refine oS J (jW (zv:=int 0) J J J Tryz.underlying22 wu J J XB acM J J aa) J ?_;refine wA [6] [39,40] [0] ?_;refine oP J (ib J Tryz.underlying22 wu J J J (by first|(simp only[ll];omega)|omega)) ?_;refine pN 41 J J aa J ?_;refine Gt [4] ?_;refine ew (o1:=[(0,_)]) J ⟨rfl,trivial⟩ ?_;refine⟨rfl,?_⟩;rw[←Ri (f:=int) (k:=k) (j:=j) acK acK cY];rfl
abbrev Zp:=dF 4 Tryz.func25
theorem KX {l:List cy}{F:List (List aK)}{w:List Int}(hF:sF F)(hw:w.length≤1048576):aU Tryz.prog 25 [pD l F,ints w] (.p (ints (cJ (ki F w) (ki F w).length))):=by
 have hal:=FD hF w;have XF:=hF.n;have hpl:=FF F w;refine cN Zp fun w0 M0 aa=>?_
 refine c4 [12] [0,1,5] [] ?_;refine BU 5 3 aa J J ?_;refine gz [2000,6001,3] [0,5,12,13] [5] ?_;refine oE J J J J J J (u5 (w:=w) acK) ?_;refine oD J J J (au (xl J Tryz.underlying100 Tryz.underlying9 N0 J J J trivial (tW F (aO F F.length 0)) J) (FE F w)) ?_;refine wA [6000,4] [0,5,15,16,17] [5] ?_;refine lp (fun zm zs=>∃k:Nat,zm=(cq F w).length-k∧(k≤(cq F w).length)∧zs=⟨44,[(0,vvw (pD l F)),(5,.own 5),(15,vvw (.sl ((cq F w).map jz))),(16,vvw (int (cq F w).length)),(17,vvw (int k))],[(5,.arr 3 ((cJ (ki F w) k).map int))]⟩) ?_ ?_;exact⟨_,0,rfl,aan _,rfl⟩;rintro zm zs ⟨k,rfl,aY,rfl⟩;refine wS [3006] [0,5,15,16,17,18] [5] ?_ ?_<;>intro h1;have hpm:=FC (w:=w) (aM (show k<(cq F w).length by omega));refine wA [8,7] [0,5,6,7,15,16,17] [5,7] ?_;refine dC [13,14] [[(5,.arr 3 ((cJ (ki F w) k).map int)),(7,.box 107 [vvw (int ((cq F w).getD k default).1),vvw (int ((cq F w).getD k default).2)])],[(5,.arr 3 ((cJ (ki F w) k).map int)),(7,.box 107 [vvw (int ((cq F w).getD k default).1),vvw (int ((cq F w).getD k default).2)]),(8,.box 22 [vvv])],[(5,.arr 3 ((cJ (ki F w) k).map int)),(7,.box 107 [vvw (int ((cq F w).getD k default).1),vvw (int ((cq F w).getD k default).2)]),(8,.box 22 [vvw (ints (a8 F ((cq F w).getD k default)).cuts)])]] 15 [(4,[0,1]),(5,[0,1]),(8,[0,1]),(9,[0,1])] [(22,vvw (pD l F)),(23,vvw (pD l F)),(24,vvw (.pc (XE l F) 1)),(25,vvw (.sl (F.map bU))),(26,.pbox 7 0),(27,vvw (int ((cq F w).getD k default).1)),(28,vvw (.pc [bU (F.getD ((cq F w).getD k default).1 default)] 0)),(29,vvw (bU (F.getD ((cq F w).getD k default).1 default))),(30,.pbox 7 1),(31,vvw (int ((cq F w).getD k default).2)),(32,vvw (.pc (EP (a8 F ((cq F w).getD k default))) 0)),(33,vvw (.pc (EP (a8 F ((cq F w).getD k default))) 2)),(34,vvw (ints (a8 F ((cq F w).getD k default)).cuts)),(8,.pbox 8 0),(0,vvw (pD l F)),(5,.own 5),(6,vvw (int k)),(7,.pbox 7 0),(15,vvw (.sl ((cq F w).map jz))),(16,vvw (int (cq F w).length)),(17,vvw (int k))] (ai bS (ai bS (ai bS (ai bS (ai (ai nH (ai nH (trivial))) (ai (ai (ae J Sb J J J) (ai (ae J Sb J J J) (trivial))) (ai (fun _=>(gF (f:=bU) (l:=F) (i:=((cq F w).getD k default).1) (z:=(F.getD ((cq F w).getD k default).1 default)) J J Tryz.underlying39 Vl J J acK (fun _=>rfl))) (ai bS (ai (ai nH (ai nH (trivial))) (ai (ai (ae J Sb J J J) (ai (ae J Sb J J J) (trivial))) (ai (fun _=>(gF (f:=fQ) (l:=(F.getD ((cq F w).getD k default).1 default)) (i:=((cq F w).getD k default).2) (z:=a8 F ((cq F w).getD k default)) J J Tryz.underlying46 GW J J acK (fun _=>rfl))) (ai bS (ai bS trivial))))))))))))) (ai (fun X e7 dH c6=>gh (t:=8) J J J J e7 Vh J J (fun t' z h hne=>eT (by rfl) (dH t' z h) hne) J aa) (ai (fun X e7 dH c6=>b8 J (b7 (u:=8) (v:=34) (id:=8) J J e7 Cw ((c6 8 acM).trans J) J ((c6 34 acM).trans J) J acM J J (fun t' z h=>cD (by rfl) (dH t' z h)) J aa)) (trivial))) ?_;refine bM (n:=0) acL ?_;refine bf acL ?_;refine iS [3] [0,5,6,8,15,16,17] [5,8] ?_;refine aI 44 [(0,_),(5,_),(6,_),(8,_),(15,_),(16,_),(17,_)] [(5,_)] aa J ⟨.inl J,.inl J,.inl J,.inr ⟨_,_,rfl,rfl,rfl⟩,.inl J,.inl J,.inl J,trivial⟩ ⟨rfl,trivial⟩ ?_;refine U0 [3005] [0,5,8,15,16,17,36] [5] ?_ ?_<;>intro h2;refine wA [4] [0,15,16,17,37] [] ?_;refine oS J (nq J J J J J J (fj (l:=(a8 F ((cq F w).getD k default)).cuts) (by have:=(gP hF ((cq F w).getD k default)).cuts;omega)) aa) J ?_;refine wA [7] [0,5,15,16,17] [38] ?_;refine ao.imp (tg 5 5 aa J J J J) ?_;refine gz [1,9002] [0,5,15,16,17] [5] ?_;have hk0:k=0:=acK;have e:cJ (ki F w) (k+1)=(a8 F ((cq F w).getD k default)).cuts:=by rw[hk0];exact(Zk acK).trans (by rw[ve acK])
 exact⟨_,⟨k+1,rfl,acK,by rw[e];rfl⟩,acK⟩;refine wZ [5,5000] ?_;refine oS J (aP [(0,5)] J J J J J J J (FH (l:=cJ (ki F w) k) (p:=fun c=>!yW (a8 F ((cq F w).getD k default)).cuts c) (by have:=Uk (ki F w) k;rw[ve acK] at this;have:=(gP hF ((cq F w).getD 0 default)).cuts;omega) (fun x _=>Hz (by have:=(gP hF ((cq F w).getD k default)).cuts;omega))) ⟨.inl J,.inl J,trivial⟩ ⟨rfl,trivial⟩ J J J J J aa) J ?_;refine wA [4] [0,5,15,16,17] [5] ?_;refine wA [1,9002] [0,5,15,16,17] [5] ?_;have e:cJ (ki F w) (k+1)=(cJ (ki F w) k).filter fun c=>!!yW (a8 F ((cq F w).getD k default)).cuts c:=by rw[Rg acK acK,ve acK];simp only[Bool.not_not]
 exact⟨_,⟨k+1,rfl,acK,by rw[e];rfl⟩,acK⟩;refine wA [7] [5] [5] ?_;refine aI 44 [(5,_)] [] aa J ⟨.inr ⟨_,_,rfl,rfl,rfl⟩,trivial⟩ trivial ?_;refine xP [8006] ?_;rw[show k=(ki F w).length by omega]
end Go.Proofs.YtlapahnodhmcpaaGreat
