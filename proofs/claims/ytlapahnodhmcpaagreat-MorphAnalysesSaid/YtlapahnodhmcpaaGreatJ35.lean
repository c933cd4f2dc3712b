/-
  Part of the proof.
-/
import Derived.Test.YtlapahnodhmcpaaGreatJ0
import Derived.Test.YtlapahnodhmcpaaGreatJ16
import Derived.Test.YtlapahnodhmcpaaGreatJ34
import Derived.Test.YtlapahnodhmcpaaGreatJ22
set_option linter.unusedVariables false
set_option linter.unusedSectionVars false
set_option linter.unusedSimpArgs false
set_option maxRecDepth 100000
set_option maxHeartbeats 40000000
namespace Go.Proofs.YtlapahnodhmcpaaGreat
open Go.Am Go.Wb Go.Wc Go.Wf Go.We
theorem oX {g:aI}{x:dY}(hg:sk g)(hw:x.lemma_.length≤1099511627776):aX Tryz.prog 46 [df g,aj x.class_,ints x.lemma_] (.p (.tup [bV (fe g x.class_ x.lemma_),int (cV g x.class_ x.lemma_)])):=EC hg hw
theorem Ym:Py Tryz.prog 13 Tryz.f13.ntmps 4 41 6 5 6 (Tryz.f13.body.getD .skip):=⟨Tryz.f13,Tryz.func13,rfl,rfl,rfl,acf,Nd,Nc⟩
theorem Kd {g:aI}{l:List dY}(hg:sk g)(hl:l.length≤1048576)(hL:∀x∈l,x.lemma_.length≤1048576):aX Tryz.prog 13 [df g,.sl (l.map dm)] (.p (.tup [J6 (TE g l),int (uL g l),int (ni g l)])):=by
 refine vO Ym (ZZ J) fun w0 M0 aa=>?_
 refine rM [2,9,3003] [1,2,4,13] [4] ?_ ?_<;>intro h1
 refine wA [3] [4] [4] ?_
 refine oP J (aC (aF J UD UC J J J) J) ?_
 refine wZ [7] ?_
 refine uw J J J ?_;rotate_left
 refine wA [14] [1,2,4,7] [4,7] ?_
 refine bL 7 5 40 46 41 aa J J J J ?_
 refine gS [5] [1,2,4,7,8] [4,7,40] ?_
 refine lp (fun zm zs=>∃i:Nat,zm=l.length-i∧(i≤l.length)∧(∀j,j<i→decide (cV g (l.getD j default).class_ (l.getD j default).lemma_=0)=true)∧zs=⟨51,[(1,vvw (.sl (l.map dm))),(2,vvw (iF g)),(4,.pbox 4 0),(7,.pbox 7 0),(8,vvw (int i))],[(4,.box 41 [vvv,vvv,vvv,vvv,vvv,vvv]),(7,.box 41 [vvw (.sl (g.sets.map jJ)),vvw (.sl (g.rules.map bm)),vvw (.sl (g.classes.map bT)),vvw (strs g.order),vvw (.sl (l.map dm)),.own 40]),(40,.arr 46 ((aT g (l.take i)).map bV))]⟩) ?_ ?_
 exact⟨_,0,rfl,Z5 _,fun j hj=>absurd hj ace,rfl⟩
 rintro zm zs ⟨i,rfl,aZ,au,rfl⟩
 refine wS [5,3003] [1,2,4,7,8,21] [4,7,40] ?_ ?_<;>intro h2
 refine wA [2006,6003,6004,2] [1,2,4,7,8,25,30,35] [4,7,40] ?_
 refine oF J J J J J J J (oX (x:=(l.getD i default)) hg (by have:=hL _ (ba (show i<l.length by omega));omega)) ?_
 refine wS [3014] [1,2,4,7,8,9,10,40] [4,7,40] ?_ ?_<;>intro h3
 refine wA [3] [4,8,10] [4] ?_
 refine oP J (aC (aF J UD UC J J J) J) ?_
 refine wZ [14] ?_
 refine uw J J J ?_;rotate_left
 refine wZ [7,5000] ?_
 refine oS J (step_append J J J J Tryz.underlying39 S9 J J aa (cZ J (cw (by rfl))) (by rw[Z0,nR,aaa];simp only[Z2,Z9];omega) (by rw[Z0,nR,aaa];simp only[Z2,Z9];omega)) J ?_
 refine wA [7,9002] [1,2,4,7,8] [4,7,40] ?_
 exact⟨_,⟨i+1,rfl,ace,gD au (decide_eq_true ace),by rw[yy ace,Z8];rfl⟩,ace⟩
 refine wA [7] [4,7] [4,7,40] ?_
 refine aS 51 [(4,_),(7,_)] [(4,_)] aa J ⟨.inl J,.inr ⟨_,_,rfl,rfl,rfl⟩,trivial⟩ ⟨rfl,trivial⟩ ?_
 refine Cw [8] ?_
 refine uw J J J ?_;rotate_left
 all_goals
  first
   | (rw[N2 (nQ ace).2 acg,(nQ (g:=g) (l:=l) ace).1,(nQ (g:=g) (l:=l) ace).2];exact⟨rfl,rfl,rfl⟩)
   | (have hh:=Ii (g:=g) (l:=l) (i:=i) ace ace au ach;rw[N2 hh.2 ach,hh.1,hh.2];exact⟨rfl,rfl,rfl⟩)
   | (have hh:=Ij (g:=g) (l:=l) (i:=i) ace ace au;rw[Im hh.2,hh.1,hh.2,aaj ace];exact⟨rfl,rfl,rfl⟩)
abbrev Yn:=dU 4 Tryz.func23
theorem ru {m:uG}{w:List Int}(hF:vC m.f)(hw:w.length≤1099511627776):aX Tryz.prog 23 [J6 m,ints w] (.fresh 69 ((jx m.f w).map o7)):=by
 refine cN Yn fun w0 M0 aa=>?_
 refine c6 [2,1005,9] [1,2,5,6] [5] ?_
 refine lp (fun zm zs=>∃i:Nat,zm=m.f.length-i∧(i≤m.f.length)∧zs=⟨50,[(1,vvw (ints w)),(2,vvw (NL m)),(5,.own 5),(6,vvw (int i))],[(5,.arr 69 ((kZ m.f w i 0).map o7))]⟩) ?_ ?_
 exact⟨_,0,rfl,Z5 _,rfl⟩
 rintro zm zs ⟨i,rfl,aZ,rfl⟩
 have hfn:=hF.n
 have hrow:=fun h:i<m.f.length=>hF.row (m.f.getD i default) (ba h)
 refine wS [6,3003] [1,2,5,6,12] [5] ?_ ?_<;>intro h1
 refine wA [11] [1,2,5,6,7] [5] ?_
 refine lp (fun zm zs=>∃k:Nat,zm=(m.f.getD i default).length-k∧(k≤(m.f.getD i default).length)∧zs=⟨50,[(1,vvw (ints w)),(2,vvw (NL m)),(5,.own 5),(6,vvw (int i)),(7,vvw (int k))],[(5,.arr 69 ((kZ m.f w i k).map o7))]⟩) ?_ ?_
 exact⟨_,0,rfl,Z5 _,rfl⟩
 rintro zm zs ⟨k,rfl,fU,rfl⟩
 have hrw:=hrow ace
 have hb:=aau (Co m.f w i k) (mV hF ace ace)
 refine wS [7,1,3003] [1,2,5,6,7,22] [5] ?_ ?_<;>intro h2
 refine wA [10,2,3] [1,2,5,6,7,33,34] [5] ?_
 refine oC J J J J (ju (a:=(bf m.f (i,k)).ah) (b:=w) (by have:=(eQ hF (i,k)).ah;omega) hw) ?_
 refine wS [3002] [1,2,5,6,7,35] [5] ?_ ?_<;>intro h3
 refine wA [7,2,2,1000,6,9002] [1,2,5,6,7] [5] ?_;rotate_left
 refine wA [6,9002] [1,2,5,6,7] [5] ?_;rotate_left
 refine wA [9,9002] [1,2,5,6] [5] ?_
 obtain rfl:k=(m.f.getD i default).length:=ace
 exact⟨_,⟨i+1,rfl,ace,by rw[←Qt J];rfl⟩,ace⟩
 refine wZ [8013] ?_
 rw[show i=m.f.length by omega];rfl
 all_goals
  exact⟨_,⟨k+1,rfl,ace,by first|(rw[Qs ach,Z8];rfl)|(rw[TC ach];rfl)⟩,ace⟩
abbrev Yo:=dU 4 Tryz.func26
theorem GM {m:uG}{w:List Int}(hF:vC m.f)(hw:w.length≤1048576):aX Tryz.prog 26 [J6 m,ints w] (.fresh 3 ((tE m.f w).map int)):=by
 have hal:(jx m.f w).length≤1001000:=aau (Co _ _ _ _) (mV hF (Z1 _) ace)
 have hac:∀a∈jx m.f w,a.form.cuts.length≤1048576:=fun a ha=>by
   unfold jx kZ at ha
   obtain⟨p,_,rfl⟩:=aao.1 ha
   exact(eQ hF p).cuts
 refine cN Yo fun w0 M0 aa=>?_
 refine c6 [2,1005,6] [1,5,10,11] [5] ?_
 refine oN J J J J J (ru hF ace) ?_
 refine wA [10] [1,5,6,7] [5] ?_
 refine lp (fun zm zs=>∃c:Nat,zm=w.length+1-c∧(c≤w.length+1)∧(0<(jx m.f w).length∨c=0)∧zs=⟨47,[(1,vvw (ints w)),(5,.own 5),(6,vvw (.sl ((jx m.f w).map o7))),(7,vvw (int c))],[(5,.arr 3 ((kv (jx m.f w) c).map int))]⟩) ?_ ?_
 exact⟨_,0,rfl,Z5 _,.inr J,rfl⟩
 rintro zm zs ⟨c,rfl,aZ,au,rfl⟩
 have hct:=yz (jx m.f w) c
 refine wS [5,4002] [1,5,6,7,17] [5] ?_ ?_<;>intro h1'
 refine wS [1,3004] [1,5,6,7,21] [5] ?_ ?_<;>intro h2
 refine wA [17] [1,5,6,7,8,9] [5] ?_
 refine lp (fun zm zs=>∃k:Nat,zm=(jx m.f w).length-k∧(k≤(jx m.f w).length)∧zs=⟨47,[(1,vvw (ints w)),(5,.own 5),(6,vvw (.sl ((jx m.f w).map o7))),(7,vvw (int c)),(8,vvw (bool (y9 (jx m.f w) c k))),(9,vvw (int k))],[(5,.arr 3 ((kv (jx m.f w) c).map int))]⟩) ?_ ?_
 exact⟨_,0,rfl,Z5 _,rfl⟩
 rintro zm zs ⟨k,rfl,fU,rfl⟩
 refine wS [5,3003] [1,5,6,7,8,9,27] [5] ?_ ?_<;>intro h3
 refine wS [4008] [1,5,6,7,9,31] [5] ?_ ?_<;>intro h4'
 refine wA [2,4] [1,5,6,7,9,31,37,38] [5] ?_
 refine oC J J J J (GC (l:=((jx m.f w).getD k default).form.cuts) (x:=(c:Int)) (by have:=hac _ (ba (show k<(jx m.f w).length by omega));omega)) ?_
 refine wA [7,9002] [1,5,6,7,8,9] [5] ?_;rotate_left
 refine wA [15,9002] [1,5,6,7,8,9] [5] ?_;rotate_left
 refine wA [7] [1,5,6,7,8] [5] ?_
 obtain rfl:k=(jx m.f w).length:=ace
 refine wS [3004] [1,5,6,7,41] [5] ?_ ?_<;>intro h5
 refine wA [4,1000,6,9002] [1,5,6,7] [5] ?_;rotate_left
 refine wA [6,9002] [1,5,6,7] [5] ?_;rotate_left
 refine wZ [8013] ?_;rotate_left
 refine wZ [8019] ?_;rotate_left
 all_goals first
  | (
    refine⟨_,⟨k+1,rfl,ace,?_⟩,ace⟩
    rw[Kb ace];first|(rw[show y9 (jx m.f w) c k=true by assumption,aaZ];rfl)|(rw[show y9 (jx m.f w) c k=false by assumption,abc];rfl);done)
  | (
    refine⟨_,⟨c+1,rfl,ace,.inl ace,?_⟩,ace⟩
    first|(rw[GL ach,Z8];rfl)|(rw[Kc ach];rfl);done)
  | (
    unfold tE;first|(rw[if_pos ace,show c=0 by omega];rfl)|(rw[if_neg ace,show c=w.length+1 by omega]);done)
abbrev Yp:=dU 2 Tryz.func34
theorem Ke {m:uG}(hF:vC m.f):aX Tryz.prog 34 [J6 m] (.p (my (Cp m.f))):=by
 refine cN Yp fun w0 M0 aa=>?_
 refine c6 [2,5] [1] [] ?_
 refine oP J (aC (dn J J) J) ?_
 refine wA [9] [1,3,4] [] ?_
 refine lp (fun zm zs=>∃i:Nat,zm=m.f.length-i∧(i≤m.f.length)∧zs=⟨35,[(1,vvw (NL m)),(3,vvw (my (kf m.f i 0))),(4,vvw (int i))],[]⟩) ?_ ?_
 exact⟨_,0,rfl,Z5 _,rfl⟩
 rintro zm zs ⟨i,rfl,aZ,rfl⟩
 have hfn:=hF.n
 have hrow:=fun h:i<m.f.length=>hF.row (m.f.getD i default) (ba h)
 refine wS [6,3003] [1,3,4,10] [] ?_ ?_<;>intro h1
 refine wA [11] [1,3,4,5] [] ?_
 refine lp (fun zm zs=>∃k:Nat,zm=(m.f.getD i default).length-k∧(k≤(m.f.getD i default).length)∧zs=⟨35,[(1,vvw (NL m)),(3,vvw (my (kf m.f i k))),(4,vvw (int i)),(5,vvw (int k))],[]⟩) ?_ ?_
 exact⟨_,0,rfl,Z5 _,rfl⟩
 rintro zm zs ⟨k,rfl,fU,rfl⟩
 have hrw:=hrow ace
 have hb:=aau (TD m.f i k) (mV hF ace ace)
 refine wS [7,1,3003] [1,3,4,5,20] [] ?_ ?_<;>intro h2
 refine wA [10,2,2] [1,4,5,23,32] [] ?_
 refine oN J J J J J (GD (l:=kf m.f i k) (x:=(bf m.f (i,k)).ah) ace (fun z hz=>aau (N1 hF i k z hz) acg) (by have:=(eQ hF (i,k)).ah;omega)) ?_
 refine wA [6,9002] [1,3,4,5] [] ?_
 exact⟨_,⟨k+1,rfl,ace,by rw[N0];rfl⟩,ace⟩
 refine wA [9,9002] [1,3,4] [] ?_
 obtain rfl:k=(m.f.getD i default).length:=ace
 exact⟨_,⟨i+1,rfl,ace,by rw[←Qu J];rfl⟩,ace⟩
 refine wZ [8013] ?_
 rw[show i=m.f.length by omega];rfl
abbrev Yq:=dU 4 Tryz.func21
theorem Cq {a b:List mh}(ha:a.length≤1099511627776)(hb:b.length≤1099511627776)(hA:∀x∈a,J5 x.form)(hB:∀x∈b,J5 x.form):aq Tryz.prog 21 [.sl (a.map o7),.sl (b.map o7)] (.p (bool (decide (a=b)))):=by
 refine cF Yq fun w0 M0 aa=>?_
 refine rM [9,1,3003] [0,1,10] [] ?_ ?_<;>intro h1
 refine wZ [8008] ?_;rotate_left
 refine wA [10] [0,1,5] [] ?_
 refine lp (fun zm zs=>∃k:Nat,zm=a.length-k∧(k≤a.length)∧(∀j,j<k→decide (a.getD j default=b.getD j default)=true)∧zs=⟨42,[(0,vvz (.sl (a.map o7))),(1,vvz (.sl (b.map o7))),(5,vvw (int k))],[]⟩) ?_ ?_
 exact⟨_,0,rfl,Z5 _,fun j hj=>absurd hj ace,rfl⟩
 rintro zm zs ⟨k,rfl,aZ,au,rfl⟩
 refine wS [5,3003] [0,1,5,14] [] ?_ ?_<;>intro h2
 refine wS [2006,6002,6004,7004] [0,1,5,28] [] ?_ ?_<;>intro h3'
 refine wZ [8027] ?_;rotate_left
 refine wA [6002,6004,2] [0,1,5,28,33,38] [] ?_
 refine oE J J J J J J (y8 (f:=(a.getD k default).form) (g:=(b.getD k default).form) (hA _ (ba ace)) (hB _ (ba ace))) ?_
 refine wS [3004] [0,1,5,41] [] ?_ ?_<;>intro h4
 refine wZ [8012] ?_;rotate_left
 refine wA [6,9002] [0,1,5] [] ?_
 exact⟨_,⟨k+1,rfl,ace,gD au (decide_eq_true (Qv (by simp_all) (by simp_all))),rfl⟩,ace⟩
 refine wZ [8012] ?_;rotate_left
 all_goals
  first|(rw[Qw ace];done)|(rw[Qx (k:=k) ace ace au];done)|(rw[N3 (k:=k) (fun he=>by simp_all)];done)
end Go.Proofs.YtlapahnodhmcpaaGreat
namespace Go.Wf
open Go.Am Go.Wb Go.Wc
def Qy (F:List (List aY))(i:Int):List aY:=if i<0∨(F.length:Int)≤i then[] else F.getD i.toNat default
theorem TF {F:List (List aY)}{i:Int}(h:i<0∨(F.length:Int)≤i):Qy F i=[]:=if_pos h
theorem Qz {F:List (List aY)}{i:Int}(h:¬(i<0∨(F.length:Int)≤i)):Qy F i=F.getD i.toNat default:=if_neg h
noncomputable def cc (F:List (List aY))(w:List Int):List (Nat×Nat):=atKey F (aR F F.length 0) (J9 (qb w))
noncomputable def j8 (F:List (List aY))(w:List Int):List mh:=(cc F w).map fun p=>⟨(p.1:Nat),bf F p⟩
theorem N4 {F:List (List aY)}{p:Nat×Nat}(h:p∈aR F F.length 0):p.1<F.length∧p.2<(F.getD p.1 default).length:=by
 unfold aR at h
 rw[List.range_zero,aa9,aav,abv] at h
 obtain⟨a,ha,h⟩:=h
 obtain⟨b,hb,rfl⟩:=aao.1 h
 exact⟨aap.1 ha,aap.1 hb⟩
theorem EL {F:List (List aY)}{w:List Int}{p:Nat×Nat}(h:p∈cc F w):p.1<F.length∧p.2<(F.getD p.1 default).length:=by
 unfold cc atKey at h
 exact N4 (aaS.1 h).1
theorem EM {F:List (List aY)}(hF:vC F)(w:List Int):(cc F w).length≤1001000:=by
 refine aau ?_ (mV hF (Z1 F.length) (Z5 _))
 unfold cc atKey
 exact aba _ _
theorem EN (F:List (List aY))(w:List Int):(sF (.sc (.slice none 0 0)) (jb F (aR F F.length 0)) ((mg F (aR F F.length 0)).map AV.sl) (J9 (qb w))).norm=.sl ((cc F w).map iP):=by
 rw[NV (mB _ _),yv];rfl
theorem Io {F:List (List aY)}{w:List Int}{k:Nat}(h:k<(cc F w).length):(j8 F w).getD k default=⟨(((cc F w).getD k default).1:Nat),bf F ((cc F w).getD k default)⟩:=by
 unfold j8
 rw[ZY,Z6,Z3 h,ZY,Z3 h];rfl
theorem EO (F:List (List aY))(w:List Int):(j8 F w).length=(cc F w).length:=Z0 _
end Go.Wf
namespace Go.Proofs.YtlapahnodhmcpaaGreat
open Go.Am Go.Wb Go.Wc Go.Wf Go.We
abbrev Yr:=dU 2 Tryz.func18
theorem Kf {l:List dY}{F:List (List aY)}(hl:l.length≤1099511627776):aX Tryz.prog 18 [tK l F] (.p (int l.length)):=by
 refine cN Yr fun w0 M0 aa=>?_
 refine zM [8,2,8004] ?_
 rfl
abbrev Ys:=dU 4 Tryz.func16
theorem za {l:List dY}{F:List (List aY)}{i:Int}(hF:vC F):aX Tryz.prog 16 [tK l F,int i] (.p (bV (Qy F i))):=by
 have WN:=hF.n
 have hrow:=fun h:i.toNat<F.length=>hF.row (F.getD i.toNat default) (ba h)
 refine cN Ys fun w0 M0 aa=>?_
 refine rM [4011] [0,1,10] [] ?_ ?_<;>intro h1'
 refine wZ [8018] ?_;rotate_left
 refine wS [2,2,3004] [0,1,18] [] ?_ ?_<;>intro h2
 refine wZ [8008] ?_;rotate_left
 refine wA [1005,6,3,1,4] [5,25,26,27] [5] ?_
 have hrw:=hrow ace
 refine lp (fun zm zs=>∃k:Nat,zm=(F.getD i.toNat default).length-k∧(k≤(F.getD i.toNat default).length)∧zs=⟨38,[(5,.own 5),(25,vvw (bV (F.getD i.toNat default))),(26,vvw (int (F.getD i.toNat default).length)),(27,vvw (int k))],[(5,.arr 64 (((F.getD i.toNat default).take k).map iG))]⟩) ?_ ?_
 exact⟨_,0,rfl,Z5 _,rfl⟩
 rintro zm zs ⟨k,rfl,aZ,rfl⟩
 refine wS [3006] [5,25,26,27,28] [5] ?_ ?_<;>intro h3
 refine wA [7,8] [25,26,27,31,32] [5] ?_
 refine oN J J J J J (EG (eQ hF (i.toNat,k))) ?_
 refine wA [0,1000,5,9002] [5,25,26,27] [5] ?_
 exact⟨_,⟨k+1,rfl,ace,by rw[take_succ ace,Z8];rfl⟩,ace⟩
 refine wA [7] [5] [5] ?_
 refine aS 38 [(5,_)] [] aa J ⟨.inr ⟨_,_,rfl,rfl,rfl⟩,trivial⟩ trivial ?_
 refine Cw [8006] ?_;rotate_left
 all_goals
  first|(rw[TF ace];first|done|rfl)|(rw[Qz ace,show k=(F.getD i.toNat default).length by omega,aa1];first|done|rfl)
theorem Kg {g:aI}{l:List dY}(hg:sk g)(hl:l.length≤1048576)(hL:∀x∈l,x.lemma_.length≤1048576)(h:ni g l≠0):aX Tryz.prog 12 [df g,.sl (l.map dm)] (.p (.tup [.sc (.pointer none),int (uL g l),int (ni g l)])):=by
 have:=EK hg hl hL
 rwa [show NW g l=.sc (.pointer none) from if_neg h] at this
theorem AO {g:aI}{l:List dY}(hg:sk g)(hl:l.length≤1048576)(hL:∀x∈l,x.lemma_.length≤1048576)(h:ni g l=0):aX Tryz.prog 12 [df g,.sl (l.map dm)] (.p (.tup [tK l (aT g l),int (uL g l),int 0])):=by
 have:=EK hg hl hL
 rwa [show NW g l=tK l (aT g l) from if_pos h,h] at this
abbrev Yt:=dU 4 Tryz.func22
theorem tF {l:List dY}{F:List (List aY)}{w:List Int}(hF:vC F)(hw:w.length≤1048576):aX Tryz.prog 22 [tK l F,ints w] (.p (.sl ((j8 F w).map o7))):=by
 have hal:=EM hF w
 have WN:=hF.n
 have hpl:=EO F w
 refine cN Yt fun w0 M0 aa=>?_
 refine c6 [1007,2004,6001,3] [0,5,11,12] [5] ?_
 refine oE J J J J J J (uJ (w:=w) ace) ?_
 refine oD J J J (aC (wH J Tryz.underlying100 Tryz.underlying9 Nk J J J trivial (tD F (aR F F.length 0)) J) (EN F w)) ?_
 refine wA [6000,4] [0,5,14,15,16] [5] ?_
 refine lp (fun zm zs=>∃k:Nat,zm=(cc F w).length-k∧(k≤(cc F w).length)∧zs=⟨41,[(0,vvw (tK l F)),(5,.own 5),(14,vvw (.sl ((cc F w).map iP))),(15,vvw (int (cc F w).length)),(16,vvw (int k))],[(5,.arr 69 (((j8 F w).take k).map o7))]⟩) ?_ ?_
 exact⟨_,0,rfl,Z5 _,rfl⟩
 rintro zm zs ⟨k,rfl,aZ,rfl⟩
 refine wS [3006] [0,5,14,15,16,17] [5] ?_ ?_<;>intro h1
 have hpm:=EL (w:=w) (ba (show k<(cc F w).length by omega))
 refine wA [7,5] [0,5,7,14,15,16] [5,7] ?_
 refine bw (n:=41) 1 (fun p=>[18].getD p 0) (fun p=>[[(5,.arr 69 (((j8 F w).take k).map o7)),(7,.box 107 [vvw (int ((cc F w).getD k default).1),vvw (int ((cc F w).getD k default).2)])],[(7,.box 107 [vvw (int ((cc F w).getD k default).1),vvw (int ((cc F w).getD k default).2)]),(38,.arr 69 (((j8 F w).take k).map o7++[o7 (⟨(((cc F w).getD k default).1:Nat),bf F ((cc F w).getD k default)⟩:mh)]))]].getD p []) 19 [(0,some [0]),(1,some [0]),(2,some [0]),(3,none),(4,none),(5,none),(6,none),(7,some [0]),(8,some [0]),(9,none),(10,none),(11,some [0]),(12,some [0]),(13,none),(14,none),(15,none),(16,none),(17,none)] [(20,.own 5),(21,.pbox 7 0),(22,vvw (int ((cc F w).getD k default).1)),(23,vvw (tK l F)),(24,vvw (tK l F)),(25,vvw (.pc (WM l F) 1)),(26,vvw (.sl (F.map bV))),(27,.pbox 7 0),(28,vvw (int ((cc F w).getD k default).1)),(29,vvw (.pc [bV (F.getD ((cc F w).getD k default).1 default)] 0)),(30,vvw (bV (F.getD ((cc F w).getD k default).1 default))),(31,.pbox 7 1),(32,vvw (int ((cc F w).getD k default).2)),(33,vvw (.pc (D5 (bf F ((cc F w).getD k default))) 0)),(34,vvw (iG (bf F ((cc F w).getD k default)))),(35,vvw (iG (bf F ((cc F w).getD k default)))),(36,vvw (o7 (⟨(((cc F w).getD k default).1:Nat),bf F ((cc F w).getD k default)⟩:mh))),(37,vvw (.sl [o7 (⟨(((cc F w).getD k default).1:Nat),bf F ((cc F w).getD k default)⟩:mh)])),(38,.own 38),(0,vvw (tK l F)),(5,.own 5),(7,.pbox 7 0),(14,vvw (.sl ((cc F w).map iP))),(15,vvw (int (cc F w).length)),(16,vvw (int k))] mixed acf acf acf acf acf ?_ (fun t d h=>h) J ?_ ?_ ?_
 ·rfl
 ·exact
  ai (ai ((af J J)) (trivial)) (
  ai (ai ((aK J wm J J)) (trivial)) (
  ai (ai ((ae J PL J J J)) (trivial)) (
  ai (fun _=>(af J J)) (
  ai (fun _=>(rK J J)) (
  ai (fun _=>(b9 J BU J)) (
  ai (fun _=>(cA J S8 J J)) (
  ai (ai ((aK J wm J J)) (trivial)) (
  ai (ai ((ae J PL J J J)) (trivial)) (
  ai (fun _=>(j2 (f:=bV) (l:=F) (i:=((cc F w).getD k default).1) (z:=(F.getD ((cc F w).getD k default).1 default)) J J Tryz.underlying39 UE J J ace (fun _=>rfl))) (
  ai (fun _=>(cA J UF J J)) (
  ai (ai ((aK J BV J J)) (trivial)) (
  ai (ai ((ae J PL J J J)) (trivial)) (
  ai (fun _=>(j2 (f:=iG) (l:=(F.getD ((cc F w).getD k default).1 default)) (i:=((cc F w).getD k default).2) (z:=bf F ((cc F w).getD k default)) J J Tryz.underlying46 F7 J J ace (fun _=>rfl))) (
  ai (fun _=>(aC (aM J PO F7 J (ZZ J)) J)) (
  ai (fun _=>(bG J J J J (EG (eQ hF ((cc F w).getD k default))) aa)) (
  ai (fun _=>(aF J XI XH J J J)) (
  ai (fun _=>(bY J Tryz.underlying55 UH J J J J aa)) (
  trivial))))))))))))))))))
 ·exact ai (fun X fl dO dh=>db (T:=55) (t:=38) (u:=20) (id:=5) (y:=.tmp 37) rfl rfl rfl fl Tryz.underlying55 UH ((dh 20 acg).trans rfl) rfl (cZ (jR ((dh 37 acg).trans rfl)) (cw (by rfl))) (by rw[Z0,aaa];simp only[Z2,Z9];omega) (by rw[Z0,aaa];simp only[Z2,Z9];omega) rfl dO rfl rfl rfl aa) (trivial)
 refine bO (n:=1) acf ?_
 refine xe 19 ?_
 refine bg acf ?_
 refine jl [2] [0,5,14,15,16] [38] ?_
 refine ao.imp (sQ 5 5 aa J J J J) ?_
 refine gS [1,9002] [0,5,14,15,16] [5] ?_
 exact⟨_,⟨k+1,rfl,ace,by rw[take_succ ace,Z8,Io ace];rfl⟩,ace⟩
 refine wA [7] [5] [5] ?_
 refine aS 41 [(5,_)] [] aa J ⟨.inr ⟨_,_,rfl,rfl,rfl⟩,trivial⟩ trivial ?_
 refine Cw [8006] ?_
 rw[show k=(j8 F w).length by omega,aa1]
end Go.Proofs.YtlapahnodhmcpaaGreat
namespace Go.Wf
open Go.Am Go.Wb Go.Wc
theorem QA (l:List Int)(x:Int):l.any (fun y=>decide (x=y))=qT l x:=by
 unfold qT;congr 1;funext y;exact decide_eq_decide.2 ⟨Eq.symm,Eq.symm⟩
theorem uM {F:List (List aY)}{w:List Int}{k:Nat}(h:k<(cc F w).length):((j8 F w).getD k default).form=bf F ((cc F w).getD k default):=by rw[Io h]
def cJ (l:List mh)(k:Nat):List Int:=if k=0 then[] else(l.getD 0 default).form.cuts.filter fun c=>(l.take k).all fun a=>qT a.form.cuts c
theorem N5 {l:List Int}{x:Int}(h:x∈l):qT l x=true:=aay.2 ⟨x,h,decide_eq_true rfl⟩
theorem Yu {l:List mh}(h:0<l.length):cJ l 1=(l.getD 0 default).form.cuts:=by
 unfold cJ
 rw[if_neg acg,ab4]
 intro c hc
 match l,h with
 | a :: l, _ =>
   show List.all [a] _=true
   simp only[List.all_cons,List.all_nil,Bool.and_true]
   exact N5 hc
theorem QB {l:List mh}{k:Nat}(h0:k≠0)(h:k<l.length):cJ l (k+1)=(cJ l k).filter fun c=>qT (l.getD k default).form.cuts c:=by
 unfold cJ
 rw[if_neg ace,if_neg h0,List.filter_filter]
 congr 1;funext c
 rw[all_succ h,Bool.and_comm]
theorem TG (l:List mh)(k:Nat):(cJ l k).length≤(l.getD 0 default).form.cuts.length:=by
 unfold cJ;split
 ·exact Z5 _
 ·exact aba _ _
section
variable {α:Type} [Inhabited α]{l ys:List α}{p:α→Bool}{j k:Nat}
theorem N6 (h:∀q,q<k→p (l.getD q default)=false)(hk:k≤l.length):(l.take k).filter (fun x=>!p x)=l.take k:=by
 rw[ab4]
 intro x hx
 obtain⟨q,hq,rfl⟩:=List.mem_iff_getElem.1 hx
 rw[aaa] at hq
 have:=h q ace
 rw[List.getElem_take,show l[q]'ace=l.getD q default from(dT ace).symm,this];rfl
theorem Ip (hj:j<l.length)(h:p (l.getD j default)=true):(l.take (j+1)).filter (fun x=>!p x)=(l.take j).filter fun x=>!p x:=by
 rw[take_succ hj,aaW,aaN,if_neg (by rw[h];decide),abp,aav]
theorem TH (hj:j<l.length)(h:p (l.getD j default)=false):(l.take (j+1)).filter (fun x=>!p x)=(l.take j).filter (fun x=>!p x)++[l.getD j default]:=by
 rw[take_succ hj,aaW,aaN,if_pos (by rw[h];rfl),abp]
theorem QC (hk:k<ys.length)(hj:j<l.length)(hp:p (l.getD j default)=false)(h:(l.take j).filter (fun x=>!p x)=ys.take k):(l.take (j+1)).filter (fun x=>!p x)=(ys.set k (l.getD j default)).take (k+1):=by
 rw[TH hj hp,h,q8 hk]
theorem QD {f:α→AV}{X:List AV}(hk:k≤ys.length)(hj:l.length≤j)(h:(l.take j).filter (fun x=>!p x)=ys.take k):((ys.map f).take k++X).take k=(l.filter fun x=>!p x).map f:=by
 rw[List.take_append_of_le_length (by simp;omega),List.take_take,Nat.min_self,←List.map_take,←h,aaj hj]
theorem N7:eB p l=-1→l.any p=false:=by
 unfold eB;split
 ·intro h;omega
 ·next h=>intro _;simpa using h
theorem QE (h:¬eB p l=-1):∃q:Nat,eB p l=q∧q<l.length∧(∀j,j<q→p (l.getD j default)=false)∧p (l.getD q default)=true:=by
 have ha:l.any p=true:=by
  cases hq:l.any p
  ·exact absurd (by unfold eB;rw[hq];rfl) h
  ·rfl
 have hlt:l.findIdx p<l.length:=List.findIdx_lt_length.2 (aay.1 ha)
 refine⟨l.findIdx p,by unfold eB;rw[if_pos ha],hlt,fun j hj=>?_,?_⟩
 ·rw[dT (Nat.lt_trans hj hlt)]
  simpa using List.not_of_lt_findIdx hj
 ·rw[dT hlt];exact List.findIdx_getElem
theorem QF:-1≤eB p l∧eB p l≤l.length:=by
 unfold eB;split
 ·have:=List.findIdx_le_length (xs:=l) (p:=p);omega
 ·omega
theorem N8 (h:l.any p=false):l.filter (fun x=>!p x)=l:=by
 rw[ab4]
 intro x hx
 rw[abe] at h
 have:=h x hx
 cases hp:p x
 ·rfl
 ·exact absurd hp this
end
end Go.Wf
namespace Go.Proofs.YtlapahnodhmcpaaGreat
open Go.Am Go.Wb Go.Wc Go.Wf Go.We
abbrev Yv:=dU 4 Tryz.func85
theorem GN {l:List Int}{x:Int}(hl:l.length≤1099511627776):aq Tryz.prog 85 [ints l,int x] (.p (int (eB (fun y=>decide (x=y)) l))):=by
 refine cF Yv fun w0 M0 aa=>?_
 refine c6 [9,4] [0,1,7,8] [] ?_
 refine lp (fun zm zs=>∃k:Nat,zm=l.length-k∧(k≤l.length)∧(∀j,j<k→decide (x=l.getD j default)=false)∧zs=⟨19,[(0,vvz (ints l)),(1,vvz (int x)),(7,vvw (int l.length)),(8,vvw (int k))],[]⟩) ?_ ?_
 exact⟨_,0,rfl,Z5 _,fun j hj=>absurd hj ace,rfl⟩
 rintro zm zs ⟨k,rfl,aZ,au,rfl⟩
 refine wS [3006] [0,1,7,8,9] [] ?_ ?_<;>intro h1
 refine wS [16,3004] [0,1,5,7,8,16] [] ?_ ?_<;>intro h2
 refine wZ [8013] ?_
 rw[←nt (p:=fun y=>decide (x=y)) (l:=l) (k:=k) ace au (by simp_all)]
 refine wA [5,9002] [0,1,7,8] [] ?_
 exact⟨_,⟨k+1,rfl,ace,b7 au (by simp_all),rfl⟩,ace⟩
 refine wZ [8012] ?_
 rw[←lD (p:=fun y=>decide (x=y)) (l:=l) (fun j hj=>au j ace)]
abbrev Yw:=dU 4 Tryz.func54
theorem zb {l:List Int}{x:Int}(hl:l.length≤1099511627776):aq Tryz.prog 54 [ints l,int x] (.p (bool (qT l x))):=by
 refine cF Yw fun w0 M0 aa=>?_
 refine c6 [9] [5,6] [] ?_
 refine oC J J J J (GN hl) ?_
 refine wZ [8005] ?_
 rw[vU,QA]
abbrev Yx:=dU 3 Tryz.func53
theorem GO {l:List Int}{x:Int}(hl:l.length≤1099511627776):aq Tryz.prog 53 ([int x]++[.pc [ints l] 0]) (.p (bool (!qT l x))):=by
 refine cF Yx fun w0 M0 aa=>?_
 refine c6 [9] [4,5] [] ?_
 refine oC J J J J (zb hl) ?_
 refine wZ [8005] ?_
 rfl
abbrev Yy:=dU 4 Tryz.func52
theorem EP {l:List Int}{p:Int→Bool}{g:FuncId}{caps:List AV}(hl:l.length≤1099511627776)(hf:∀x∈l,aq Tryz.prog g ([int x]++caps) (.p (bool (p x)))) :
  lg Tryz.prog 52 [.own 0,vvw (.clo g caps)] [(0,.arr 3 (l.map int))] (.own 0) [(0,.arr 3 ((l.filter fun x=>!p x).map int))]:=by
 have hib:=QF (p:=p) (l:=l)
 refine gz Yy (ZZ J) fun w0 M0 aa=>?_
 refine c6 [9] [0,1,8,9] [0] ?_
 refine oC J J J J (Au hl hf) ?_
 refine wS [3010] [0,1,5,12] [0] ?_ ?_<;>intro h1
 refine wZ [9] ?_
 refine ey (o1:=[(0,_)]) J ⟨rfl,trivial⟩ ?_
 rw[N8 (N7 h1)];exact⟨rfl,rfl⟩
 refine wA [7,4] [0,1,5,6] [0] ?_
 obtain⟨q,hq,hql,hq1,hq2⟩:=QE (p:=p) (l:=l) ace
 refine lp (fun zm zs=>∃(ys:List Int)(k j:Nat),zm=l.length-j∧(j≤l.length)∧(ys.length=l.length)∧((l.take j).filter (fun x=>!p x)=ys.take k)∧(k+1≤j)∧(∀i,j≤i→ys.getD i default=l.getD i default)∧zs=⟨42,[(0,.own 0),(1,vvw (.clo g caps)),(5,vvw (int k)),(6,vvw (int j))],[(0,.arr 3 (ys.map int))]⟩) ?_ ?_
 rw[hq]
 exact⟨_,l,q,q+1,rfl,ace,rfl,(Ip hql hq2).trans (N6 hq1 ace),Z1 _,fun i _=>rfl,rfl⟩
 rintro zm zs ⟨ys,k,j,rfl,aZ,au,cX,HX,AP,rfl⟩
 refine wS [5,3003] [0,1,5,6,19] [0] ?_ ?_<;>intro h2
 refine wA [9,0,7] [0,1,5,6,7,26,27] [0] ?_
 refine oC J J J J (hf _ (by rw[abl,AP j (Z1 _)];exact ba ace)) ?_
 refine wS [3003] [0,1,5,6,7,29] [0] ?_ ?_<;>intro h3
 refine wZ [6,5000] ?_
 refine oS J (ay J J J y3 J J (ix (by first|(simp only[ll];omega)|omega)) J J (.inl J) J (ZZ J) aa) J ?_
 refine wA [4,6,9002] [0,1,5,6] [0] ?_
 rw[AP j (Z1 _)] at h3
 refine⟨_,⟨ys.set k (l.getD j default),k+1,j+1,rfl,ace,by simpa using au,QC ace ace h3 cX,ace,fun i hi=>?_,?_⟩,ace⟩
 ·rw[lx ace];exact AP i ace
 ·rw[List.map_set,←AP j (Z1 _)];rfl
 refine wA [6,9002] [0,1,5,6] [0] ?_
 rw[AP j (Z1 _)] at h3
 exact⟨_,⟨ys,k,j+1,rfl,ace,au,(Ip ace h3).trans cX,ace,fun i hi=>AP i ace,rfl⟩,ace⟩
 refine wA [10] [0,5,36,37] [0] ?_
 refine oP J (dN J Tryz.underlying22 y3 J J J (by first|(simp only[ll];omega)|omega)) ?_
 refine oS J (jQ (zv:=int 0) J J J Tryz.underlying22 y3 J J Xs acg J J aa) J ?_
 refine wA [6] [39,40] [0] ?_
 refine oP J (gW J Tryz.underlying22 y3 J J J (by first|(simp only[ll];omega)|omega)) ?_
 refine pj 41 J J aa J ?_
 refine FC [4] ?_
 refine ey (o1:=[(0,_)]) J ⟨rfl,trivial⟩ ?_
 refine⟨rfl,?_⟩
 rw[←QD (f:=int) (k:=k) (j:=j) ace ace cX];rfl
abbrev Yz:=dU 4 Tryz.func25
theorem AQ {l:List dY}{F:List (List aY)}{w:List Int}(hF:vC F)(hw:w.length≤1048576):aX Tryz.prog 25 [tK l F,ints w] (.p (ints (cJ (j8 F w) (j8 F w).length))):=by
 have hal:=EM hF w
 have WN:=hF.n
 have hpl:=EO F w
 refine cN Yz fun w0 M0 aa=>?_
 refine c6 [12] [0,1,5] [] ?_
 refine Bc 5 3 aa J J ?_
 refine gS [2000,6001,3] [0,5,12,13] [5] ?_
 refine oE J J J J J J (uJ (w:=w) ace) ?_
 refine oD J J J (aC (wH J Tryz.underlying100 Tryz.underlying9 Nk J J J trivial (tD F (aR F F.length 0)) J) (EN F w)) ?_
 refine wA [6000,4] [0,5,15,16,17] [5] ?_
 refine lp (fun zm zs=>∃k:Nat,zm=(cc F w).length-k∧(k≤(cc F w).length)∧zs=⟨44,[(0,vvw (tK l F)),(5,.own 5),(15,vvw (.sl ((cc F w).map iP))),(16,vvw (int (cc F w).length)),(17,vvw (int k))],[(5,.arr 3 ((cJ (j8 F w) k).map int))]⟩) ?_ ?_
 exact⟨_,0,rfl,Z5 _,rfl⟩
 rintro zm zs ⟨k,rfl,aZ,rfl⟩
 refine wS [3006] [0,5,15,16,17,18] [5] ?_ ?_<;>intro h1
 have hpm:=EL (w:=w) (ba (show k<(cc F w).length by omega))
 refine wA [8,7] [0,5,6,7,15,16,17] [5,7] ?_
 refine bw (n:=44) 2 (fun p=>[13,14].getD p 0) (fun p=>[[(5,.arr 3 ((cJ (j8 F w) k).map int)),(7,.box 107 [vvw (int ((cc F w).getD k default).1),vvw (int ((cc F w).getD k default).2)])],[(5,.arr 3 ((cJ (j8 F w) k).map int)),(7,.box 107 [vvw (int ((cc F w).getD k default).1),vvw (int ((cc F w).getD k default).2)]),(8,.box 22 [vvv])],[(5,.arr 3 ((cJ (j8 F w) k).map int)),(7,.box 107 [vvw (int ((cc F w).getD k default).1),vvw (int ((cc F w).getD k default).2)]),(8,.box 22 [vvw (ints (bf F ((cc F w).getD k default)).cuts)])]].getD p []) 15 [(0,none),(1,none),(2,none),(3,none),(4,some [0,1]),(5,some [0,1]),(6,none),(7,none),(8,some [0,1]),(9,some [0,1]),(10,none),(11,none),(12,none)] [(22,vvw (tK l F)),(23,vvw (tK l F)),(24,vvw (.pc (WM l F) 1)),(25,vvw (.sl (F.map bV))),(26,.pbox 7 0),(27,vvw (int ((cc F w).getD k default).1)),(28,vvw (.pc [bV (F.getD ((cc F w).getD k default).1 default)] 0)),(29,vvw (bV (F.getD ((cc F w).getD k default).1 default))),(30,.pbox 7 1),(31,vvw (int ((cc F w).getD k default).2)),(32,vvw (.pc (D5 (bf F ((cc F w).getD k default))) 0)),(33,vvw (.pc (D5 (bf F ((cc F w).getD k default))) 2)),(34,vvw (ints (bf F ((cc F w).getD k default)).cuts)),(8,.pbox 8 0),(0,vvw (tK l F)),(5,.own 5),(6,vvw (int k)),(7,.pbox 7 0),(15,vvw (.sl ((cc F w).map iP))),(16,vvw (int (cc F w).length)),(17,vvw (int k))] mixed acf acf acf acf acf ?_ (fun t d h=>h) J ?_ ?_ ?_
 ·rfl
 ·exact
  ai (fun _=>(af J J)) (
  ai (fun _=>(rK J J)) (
  ai (fun _=>(b9 J BU J)) (
  ai (fun _=>(cA J S8 J J)) (
  ai (ai ((aK J wm J J)) (ai ((aK J wm J J)) (trivial))) (
  ai (ai ((ae J PL J J J)) (ai ((ae J PL J J J)) (trivial))) (
  ai (fun _=>(j2 (f:=bV) (l:=F) (i:=((cc F w).getD k default).1) (z:=(F.getD ((cc F w).getD k default).1 default)) J J Tryz.underlying39 UE J J ace (fun _=>rfl))) (
  ai (fun _=>(cA J UF J J)) (
  ai (ai ((aK J BV J J)) (ai ((aK J BV J J)) (trivial))) (
  ai (ai ((ae J PL J J J)) (ai ((ae J PL J J J)) (trivial))) (
  ai (fun _=>(j2 (f:=iG) (l:=(F.getD ((cc F w).getD k default).1 default)) (i:=((cc F w).getD k default).2) (z:=bf F ((cc F w).getD k default)) J J Tryz.underlying46 F7 J J ace (fun _=>rfl))) (
  ai (fun _=>(b9 J F9 J)) (
  ai (fun _=>(cA J F5 J J)) (
  trivial)))))))))))))
 ·exact ai (fun X fl dO dh=>gZ (t:=8) rfl rfl rfl rfl fl UA rfl rfl (fun t' z h hne=>fz (by rfl) (dO t' z h) hne) rfl aa) (ai (fun X fl dO dh=>cr rfl (cq (u:=8) (v:=34) (id:=8) rfl rfl fl BP ((dh 8 acg).trans rfl) rfl ((dh 34 acg).trans rfl) rfl acg rfl rfl (fun t' z h=>cO (by rfl) (dO t' z h)) rfl aa)) (trivial))
 refine bO (n:=0) acf ?_
 refine bg acf ?_
 refine jl [3] [0,5,6,8,15,16,17] [5,8] ?_
 refine aS 44 [(0,_),(5,_),(6,_),(8,_),(15,_),(16,_),(17,_)] [(5,_)] aa J ⟨.inl J,.inl J,.inl J,.inr ⟨_,_,rfl,rfl,rfl⟩,.inl J,.inl J,.inl J,trivial⟩ ⟨rfl,trivial⟩ ?_
 refine Ug [3005] [0,5,8,15,16,17,36] [5] ?_ ?_<;>intro h2
 refine wA [4] [0,15,16,17,37] [] ?_
 refine oS J (mZ J J J J J J (fb (l:=(bf F ((cc F w).getD k default)).cuts) (by have:=(eQ hF ((cc F w).getD k default)).cuts;omega)) aa) J ?_
 refine wA [7] [0,5,15,16,17] [38] ?_
 refine ao.imp (sQ 5 5 aa J J J J) ?_
 refine gS [1,9002] [0,5,15,16,17] [5] ?_
 have hk0:k=0:=ace
 have e:cJ (j8 F w) (k+1)=(bf F ((cc F w).getD k default)).cuts:=by rw[hk0];exact(Yu ace).trans (by rw[uM ace])
 exact⟨_,⟨k+1,rfl,ace,by rw[e];rfl⟩,ace⟩
 refine wZ [5,5000] ?_
 refine oS J (aO [(0,5)] J J J J J J J (EP (l:=cJ (j8 F w) k) (p:=fun c=>!qT (bf F ((cc F w).getD k default)).cuts c) (by have:=TG (j8 F w) k;rw[uM ace] at this;have:=(eQ hF ((cc F w).getD 0 default)).cuts;omega) (fun x _=>GO (by have:=(eQ hF ((cc F w).getD k default)).cuts;omega))) ⟨.inl J,.inl J,trivial⟩ ⟨rfl,trivial⟩ J J J J J aa) J ?_
 refine wA [4] [0,5,15,16,17] [5] ?_
 refine wA [1,9002] [0,5,15,16,17] [5] ?_
 have e:cJ (j8 F w) (k+1)=(cJ (j8 F w) k).filter fun c=>!!qT (bf F ((cc F w).getD k default)).cuts c:=by rw[QB ace ace,uM ace];simp only[Bool.not_not]
 exact⟨_,⟨k+1,rfl,ace,by rw[e];rfl⟩,ace⟩
 refine wA [7] [5] [5] ?_
 refine aS 44 [(5,_)] [] aa J ⟨.inr ⟨_,_,rfl,rfl,rfl⟩,trivial⟩ trivial ?_
 refine Cw [8006] ?_
 rw[show k=(j8 F w).length by omega]
end Go.Proofs.YtlapahnodhmcpaaGreat
