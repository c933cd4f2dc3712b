/-
  Part of the proof.
-/
import Derived.Test.YtlapahnodhmcpaaGreatX15
set_option linter.unusedVariables false
set_option linter.unusedSectionVars false
set_option linter.unusedSimpArgs false
set_option maxRecDepth 100000
set_option maxHeartbeats 40000000
namespace Go.Proofs.YtlapahnodhmcpaaGreat
open Go.Am Go.Wb
theorem Ps {P:Program}{w0:Fr}{M0:Nat→Prop}{s:St}{o:Oper}{T e:TypeId}{x y:Operand}{id off:Nat}{f g:Nat→Bool}(ho:o.op=.store T x y)(hd:o.dst=none)(hnd:Nodup s.s=true)(hk:bX P T=some 1)
  (hx:s.ev x=some (.pbox id off))(hl:s.o.lookup id=some (.box e (iz f)))(hy:s.ev y=some (vvw (bool true)))(hle:off<64)(hg:ry (de id (iz f)) off [vvw (bool true)]=iz g)(ae:∀b,M0 b→b<w0.w.heap.size) :
  Step P w0 M0 o s (s.cK false id (.box e (iz g))):=by
 have:=aW (P:=P) (w0:=w0) (M0:=M0) (k:=1) ho hd hnd hk hx hl hy rfl (fun h=>by cases h) rfl (by rw[oY];exact Nat.ble_eq_true_of_le adh) ae;rw[show c8 (vvw (bool true))=[vvw (bool true)] from rfl,hg] at this;exact this
theorem X7:zeroOf Tryz.prog 219=some (List.replicate 64 (Value.bool false)):=adi
theorem aal:ug Tryz.prog 91 Tryz.f91.ntmps 2 87 3 (Tryz.f91.body.getD .skip):=⟨Tryz.f91,Tryz.func91,rfl,rfl,rfl,adi,je,bY⟩
theorem oh {l:List Rx}(hn:∀x∈l,Nf x)(hs:Rx.aE l≤274877906944):aV Tryz.prog 91 [jM l] (.p (rx (qe l))):=by
 have hl:=du l;have hLs:=ky l;have hLl:=du (aX l);have hz:∀j k,j<(aX l).length→k<((aX l).getD j default).syms.length→0≤((aX l).getD j default).syms.getD k default∧((aX l).getD j default).syms.getD k default<64:=fun j k hj hk=>by
   have h1:=(tm hn (aS hj)).1;have h2:((aX l).getD j default).syms.getD k default∈((aX l).getD j default).syms:=by rw[dB hk];exact abV hk
   exact(jJ.1 (h1.k2 (Oa h1 h2)).2).2.2 _ h2
 have hsz:∀j,j<(aX l).length→((aX l).getD j default).size≤Rx.aE (aX l):=fun j hj=>gB (aS hj)
 have hsy:∀j,((aX l).getD j default).syms.length<((aX l).getD j default).size:=fun j=>eJ _
 have hro:∀j,Rx.aE (mu ((aX l).take j))≤Rx.aE (aX l):=fun j=>abb (uT _) (gN _ _)
 have hsl:=uU (aX l) 64;have h2s:=yz (aX l);have h3s:=Hb (aX l);have hm2:(Rx.mk 2 (fM (aX l) 64) []).size=1+(fM (aX l) 64).length:=by rw[dY,Rx.aE];rfl
 refine bh aal (aaz J) fun w0 M0 ae=>?_
 refine db [1007,9] [0,2,3,4] [2,3] ?_;refine lr (fun zl zo zm zs=>∃i:Nat,zm=l.length-i∧(i≤l.length)∧zs=eV 128 [(0,vvw (jM l)),(2,.pbox 2 0),(3,.own 3),(4,vvw (int i))] zl [(2,.box 87 [vvw (.sc (.int .i64 0)),vvv,vvv]),(3,.arr 87 ((aX (l.take i)).map rx))] zo) ?_ ?_;exact⟨_,0,rfl,aaG _,rfl⟩;rintro zm zs ⟨i,rfl,aY,rfl⟩;have hb2:=ky (l.take i);have hb3:=gN l i;have hb4:=du (aX (l.take i));have hb5:=fun(h:i<l.length)=>gB (aS h)
 have hb10:=ek (l.getD i default);refine wS [5,3003] [0,2,3,4,16] [2,3] ?_ ?_<;>intro h1;refine wS [9,3005] [0,2,3,4,24] [2,3] ?_ ?_<;>intro h2;refine wA [5,2] [0,2,4,25,30] [2,3] ?_;refine oS J (step_append J J J J Tryz.underlying85 jz J J ae (w8 (l:=(l.getD i default).kids) J) (by first|(simp only[ll];omega)|omega) (by first|(simp only[ll];omega)|omega)) J ?_;refine wA [6,9002] [0,2,3,4] [2,3] ?_;rotate_left;refine wA [5,1,1000,6,9002] [0,2,3,4] [2,3] ?_;rotate_left;refine wA [7] [2,3] [2,3] ?_;refine aD 128 [(2,_),(3,_)] [(2,_)] ae J ⟨.inl J,.inr ⟨_,_,rfl,rfl,rfl⟩,trivial⟩ ⟨rfl,trivial⟩ ?_;rw[show l.take i=l from aa2 adh];refine gV [1] [2,3] [2] ?_;refine oS J (cR J J J J J X7 J ae) J ?_;refine wA [4] [2,3,5] [2,5] ?_;refine oP J (ar (kQ J J) J) ?_;refine wA [19] [2,3,5,6,7,8,9] [2,5] ?_;refine lr (fun zl zo zm zs=>∃j:Nat,zm=(aX l).length-j∧(j≤(aX l).length)∧zs=eV 128 [(2,.pbox 2 0),(3,vvw (jM (aX l))),(5,.pbox 5 0),(6,vvw (jM (mu ((aX l).take j)))),(7,vvw (bool (rl ((aX l).take j)))),(8,vvw (bool (mv ((aX l).take j)))),(9,vvw (int j))] zl [(2,.box 87 [vvw (.sc (.int .i64 0)),vvv,vvv]),(5,.box 219 (iz (PO ((aX l).take j))))] zo) ?_ ?_;exact⟨_,0,rfl,aaG _,rfl⟩;rintro zm zs ⟨j,rfl,gi,rfl⟩;refine wS [5,3003] [2,3,5,6,7,8,9,42] [2,5] ?_ ?_<;>intro h3;refine wA [12] [2,3,5,6,7,8,9,10] [2,5] ?_;refine lp (fun zm zs=>∃k:Nat,zm=((aX l).getD j default).syms.length-k∧(k≤((aX l).getD j default).syms.length)∧zs=⟨128,[(2,.pbox 2 0),(3,vvw (jM (aX l))),(5,.pbox 5 0),(6,vvw (jM (mu ((aX l).take j)))),(7,vvw (bool (rl ((aX l).take j)))),(8,vvw (bool (mv ((aX l).take j)))),(9,vvw (int j)),(10,vvw (int k))],[(2,.box 87 [vvw (.sc (.int .i64 0)),vvv,vvv]),(5,.box 219 (iz (po (aX l) j k)))]⟩) ?_ ?_;refine⟨_,0,rfl,aaG _,?_⟩;rw[QL];rfl;rintro zm zs ⟨k,rfl,IT,rfl⟩;have hk1:=hsz j adh;have hk2:=hsy j;refine wS [6,2,3003] [2,3,5,6,7,8,9,10,52] [2,5] ?_ ?_<;>intro h4;refine wA [8,3,1] [2,3,5,6,7,8,9,10,62] [2,5] ?_;refine oP J (pJ (n:=64) J Tryz.underlying219 j7 J J J (hz j k adh adh)) ?_;refine oS J (Ps (f:=po (aX l) j k) (g:=po (aX l) j (k+1)) J J J j7 J J J (by have:=hz j k adh adh;omega) (EU 5 adh (hz j k adh adh)) ae) J ?_;refine wA [5,9002] [2,3,5,6,7,8,9,10] [2,5] ?_;exact⟨_,⟨k+1,rfl,adh,rfl⟩,adh⟩;refine wS [10,3005] [2,3,5,6,7,8,9,69] [2,5] ?_ ?_<;>intro h5;refine wA [8,9002] [2,3,5,6,7,8,9] [2,5] ?_;rotate_left;refine wS [5,3005] [2,3,5,6,7,8,9,75] [2,5] ?_ ?_<;>intro h6;refine wA [6,1] [2,3,5,7,8,9,76,80] [2,5] ?_;refine oN J J J J J (vi (l:=mu ((aX l).take j)) (x:=((aX l).getD j default)) (by have:=hro j;omega) (by have:=hsz j adh;omega)) ?_;refine wS [4006] [2,3,5,6,7,9,83] [2,5] ?_ ?_<;>intro h7';refine wA [12,9002] [2,3,5,6,7,8,9] [2,5] ?_;rotate_left;refine wA [2,1] [2,3,5,6,7,9,83,87] [2,5] ?_;refine oC J J J J (KQ _ ((aX l).getD j default) (aaD _) (by have:=hsz j adh;omega)) ?_;refine wA [7,9002] [2,3,5,6,7,8,9] [2,5] ?_;rotate_left;refine wA [6,9002] [2,3,5,6,7,8,9] [2,5] ?_;rotate_left;refine wA [7] [2,5,6,7,8] [2,5] ?_;rw[show(aX l).take j=(aX l) from aa2 adh];refine wA [1001,9] [2,5,6,7,8,11,12] [2,5,11] ?_;refine lr (fun zl zo zm zs=>∃v:Nat,zm=64-v∧(v≤64)∧zs=eV 128 [(2,.pbox 2 0),(5,.pbox 5 0),(6,vvw (jM (mu (aX l)))),(7,vvw (bool (rl (aX l)))),(8,vvw (bool (mv (aX l)))),(11,.own 11),(12,vvw (int v))] zl [(2,.box 87 [vvw (.sc (.int .i64 0)),vvv,vvv]),(5,.box 219 (iz (PO (aX l)))),(11,.arr 3 ((fM (aX l) v).map int))] zo) ?_ ?_;exact⟨_,0,rfl,aaG _,rfl⟩;rintro zm zs ⟨v,rfl,SM,rfl⟩;have hv1:=uU (aX l) v;refine wS [3007] [2,5,6,7,8,11,12,91] [2,5,11] ?_ ?_<;>intro h8;refine wA [8] [2,5,6,7,8,11,12,94] [2,5,11] ?_;refine oP J (pJ (n:=64) J Tryz.underlying219 j7 J J J adh) ?_;refine oP J (aa J SE J J (KD (f:=PO (aX l)) (v:=v) adh)) ?_;refine wS [3002] [2,5,6,7,8,11,12,96] [2,5,11] ?_ ?_<;>intro h9;refine wA [4,1000,6,9002] [2,5,6,7,8,11,12] [2,5,11] ?_;rotate_left;refine wA [6,9002] [2,5,6,7,8,11,12] [2,5,11] ?_;rotate_left;refine wA [6] [2,6,7,8,11] [2,11] ?_;refine ct (fun zs=>zs=⟨128,[(2,.pbox 2 0),(6,vvw (jM (mw (aX l)))),(7,vvw (bool (rl (aX l)))),(8,vvw (bool (mv (aX l))))],[(2,.box 87 [vvw (.sc (.int .i64 0)),vvv,vvv])]⟩) ?_ ?_;refine wA [1] [2,6,7,8,11] [2,11] ?_;refine aD 128 [(2,_),(6,_),(7,_),(8,_),(11,_)] [(2,_)] ae J ⟨.inl J,.inl J,.inl J,.inl J,.inr ⟨_,_,rfl,rfl,rfl⟩,trivial⟩ ⟨rfl,trivial⟩ ?_;have ev:v=64:=adh;subst ev;refine Ve [2,3003] [2,6,7,8,11,103] [2] ?_ ?_<;>intro h10;refine wA [4] [2,7,8,104,105] [2] ?_;refine oN J J J J J (lg (fM (aX l) 64)) ?_;refine oN J J J J J (vi (l:=mu (aX l)) (x:=.mk 2 (fM (aX l) 64) []) (by have:=uT (aX l);omega) adh) ?_;refine wA [10002] [2,6,7,8] [2] ?_;rotate_left;refine wA [10002] [2,6,7,8] [2] ?_;rotate_left;rintro zs ⟨rfl⟩;refine ct (fun zs=>zs=⟨128,[(2,.pbox 2 0),(6,vvw (jM (mZ (aX l))))],[(2,.box 87 [vvw (.sc (.int .i64 0)),vvv,vvv])]⟩) ?_ ?_;refine wS [4004] [2,6,8,109] [2] ?_ ?_<;>intro h11';refine wS [3005] [2,6,112] [2] ?_ ?_<;>intro h12;refine wA [3] [2,113] [2] ?_;refine oP J (ar (aK J yA my J J J) J) ?_;refine oN J J J J J (vi (l:=mw (aX l)) (x:=eP) adh adj) ?_;refine wA [10002] [2,6] [2] ?_;rotate_left;refine wA [10002] [2,6] [2] ?_;rotate_left;refine wA [10007] [2,6] [2] ?_;rotate_left;rintro zs ⟨rfl⟩;refine wS [4,3003] [2,6,118] [2] ?_ ?_<;>intro h13;refine wA [3] [2] [2] ?_;refine oP J (ar (aK J yA my J J J) J) ?_;refine wZ [5] ?_;refine ao J ?_;rotate_left;refine wS [7,3003] [2,6,122] [2] ?_ ?_<;>intro h14;refine wZ [4,6] ?_;refine ao J ?_;rotate_left;refine wA [6] [2,126] [2] ?_;refine oN J J J J J (CK 4 (mZ (aX l))) ?_;refine wZ [4] ?_;refine ao J ?_;rotate_left
 all_goals first
  | (
    exact⟨_,⟨i+1,rfl,adh,by rw[nO adh];first|(rw[gS adh,aaK];rfl)|(rw[jx adh,aaK];rfl)⟩,adh⟩;done)
  | (
    exact⟨_,⟨j+1,rfl,adh,by rw[Oe (j:=j) (k:=k) adh adh];first|(rw[Ub adh adh,Ud adh adh,Uh adh adh];rfl)|(rw[Uc adh adh adh,Ug adh adh adh,Hc adh adh];rfl)|(rw[Od adh adh,Ue adh adh adk,Hc adh adh];rfl)|(rw[Od adh adh,Uf adh adh adk,Hc adh adh];rfl)⟩,adh⟩;done)
  | (
    exact⟨_,⟨v+1,rfl,adh,by first|(rw[QM adk,aaK];rfl)|(rw[QN adk];rfl)⟩,adh⟩;done)
  | (
    first|(rw[QO adh];first|done|rfl)|(rw[QP adh];first|done|rfl);done)
  | (
    first|(rw[QQ adk adk];first|done|rfl)|(rw[QR adk];first|done|rfl)|(rw[QS adk];first|done|rfl);done)
  | (
    first
      | (rw[show qe l=_ from GR (k:=mZ (aX l)) adh];first|done|rfl)
      | (rw[show qe l=_ from Cj (k:=mZ (aX l)) adh];first|done|rfl)
      | (rw[show qe l=_ from x6 (k:=mZ (aX l)) adh adh];first|done|rfl);done)
theorem aam:ug Tryz.prog 64 Tryz.f64.ntmps 2 87 3 (Tryz.f64.body.getD .skip):=⟨Tryz.f64,Tryz.func64,rfl,rfl,rfl,adi,je,bY⟩
theorem zh {x:Rx}(hn:Nf x)(hs:x.size≤274877906944):aV Tryz.prog 64 [rx x] (.p (rx (rG x))):=by
 have hk:=ek x;have he:=size_eq x;have hf:=oZ Oh x.kids;have hfn:∀y∈x.kids.filter Oh,y∈x.kids:=fun y hy=>(abA.1 hy).1
 have hkn:∀y∈x.kids.filter Oh,Nf y:=fun y hy=>Nf.kids hn (hfn y hy)
 rw[fy x];refine bh aam (aaz J) fun w0 M0 ae=>?_
 refine pO [1002,4010] [1,2,8] [1,2] ?_ ?_<;>intro h1';refine wZ [15] ?_;refine ao J ?_;rotate_left;refine wS [3006] [1,2,12] [1,2] ?_ ?_<;>intro h2;refine wZ [9] ?_;refine ao J ?_;rotate_left;refine wS [3011] [1,2,16] [1,2] ?_ ?_<;>intro h3;refine wZ [9] ?_;refine ao J ?_;rotate_left;refine wA [3] [1,2] [1,2] ?_;refine ct (fun zs=>zs=⟨48,[(1,.pbox 1 0),(2,.pbox 2 0)],[(1,.box 87 [vvw (int ((sn x)).kind),vvw (ints ((sn x)).syms),vvw (.sl (Rx.gv ((sn x)).kids))]),(2,.box 87 [vvw (.sc (.int .i64 0)),vvv,vvv])]⟩) ?_ ?_;refine wS [3007] [1,2,20] [1,2] ?_ ?_<;>intro h4;refine wA [1003,9] [1,2,3,4] [1,2,3] ?_;refine lr (fun zl zo zm zs=>∃i:Nat,zm=x.kids.length-i∧(i≤x.kids.length)∧zs=eV 48 [(3,.own 3),(4,vvw (int i))] zl [(1,.box 87 [vvw (int (x).kind),vvw (ints (x).syms),vvw (jM (x).kids)]),(3,.arr 87 (((x.kids.take i).filter Oh).map rx))] zo) ?_ ?_;exact⟨_,0,rfl,aaG _,rfl⟩;rintro zm zs ⟨i,rfl,aY,rfl⟩;have hb1:=oZ Oh (x.kids.take i);have hb2:=gN x.kids i;have hb3:=du ((x.kids.take i).filter Oh);refine wS [6,3003] [1,2,3,4,25] [1,2,3] ?_ ?_<;>intro h5;refine wS [10,3005] [1,2,3,4,34] [1,2,3] ?_ ?_<;>intro h6;refine wA [6,1,1000,6,9002] [1,2,3,4] [1,2,3] ?_;rotate_left;refine wA [6,9002] [1,2,3,4] [1,2,3] ?_;rotate_left;refine wA [6] [1,2,3] [1,2,3] ?_;refine aD 48 [(1,_),(2,_),(3,_)] [(1,_),(2,_)] ae J ⟨.inl J,.inl J,.inr ⟨_,_,rfl,rfl,rfl⟩,trivial⟩ ⟨rfl,rfl,trivial⟩ ?_;refine gV [2] [1,2,43] [1,2] ?_;refine oN J J J J J (oh (l:=(x.kids.take i).filter Oh) (by rw[show x.kids.take i=x.kids from aa2 adh];exact hkn) (by have:=oZ Oh (x.kids.take i);have:=gN x.kids i;omega)) ?_;refine wA [10002] [1,2] [1,2] ?_;rotate_left;refine wA [10002] [1,2] [1,2] ?_;rotate_left;rintro zs ⟨rfl⟩;refine wZ [3,5000] ?_;refine oN J J J J J (CK 5 [sn x]) ?_;refine wZ [4] ?_;refine ao J ?_;rotate_left
 all_goals first
  | (
    first|(rw[QT adh];first|done|rfl)|(rw[QU adh adh,fy];first|done|rfl)|(rw[QV adh adh];first|done|rfl);done)
  | (
    exact⟨_,⟨i+1,rfl,adh,by first|(rw[Ui adh (VW adh),aaK];rfl)|(rw[Uj adh (VX adh)];rfl)⟩,adh⟩;done)
  | (
    first|(rw[Of adh,show x.kids.filter (fun y=>!decide (y.kind=1))=(x.kids.take i).filter Oh by rw[show x.kids.take i=x.kids from aa2 adh]];first|done|rfl)|(rw[Og adh,xR];first|done|rfl);done)
theorem aan:ug Tryz.prog 94 Tryz.f94.ntmps 4 87 3 (Tryz.f94.body.getD .skip):=⟨Tryz.f94,Tryz.func94,rfl,rfl,rfl,adi,je,bY⟩
theorem De (t:Bool):∀(m:Nat)(r:Rx),r.size≤m→m≤137438953472→aT r=true→aV Tryz.prog 94 [rx r,bool t] (.p (rx (aN t r))):=by
 intro m
 induction m with
 | zero=>intro r hr;have:=size_pos r;omega
 | succ m ih =>
 intro r hr hm hv;have hk:=ek r;have he:=size_eq r;have hns:=KE t r;have hnl:=IM t r;have hvk:=ir hv;rw[fy r];refine bh aan (aaz J) fun w0 M0 ae=>?_
 refine db [2,1005,9] [1,2,4,5,6] [4,5] ?_;refine lr (fun zl zo zm zs=>∃i:Nat,zm=r.kids.length-i∧(i≤r.kids.length)∧zs=eV 56 [(5,.own 5),(6,vvw (int i))] zl [(4,.box 87 [vvw (.sc (.int .i64 0)),vvv,vvv]),(5,.arr 87 (((vM t r).take i).map rx))] zo) ?_ ?_;exact⟨_,0,rfl,aaG _,rfl⟩;rintro zm zs ⟨i,rfl,aY,rfl⟩;refine wS [6,3003] [1,2,4,5,6,12] [4,5] ?_ ?_<;>intro h1;refine wA [11] [1,2,4,5,6,7] [4,5] ?_;refine ct (fun zs=>∃k:Nat,(k<r.kids.length)∧((vM t r).getD i default=aN t (r.kids.getD k default))∧zs=⟨56,[(1,vvw (bool t)),(2,vvw (wi r)),(4,.pbox 4 0),(5,.own 5),(6,vvw (int i)),(7,vvw (int k))],[(4,.box 87 [vvw (.sc (.int .i64 0)),vvv,vvv]),(5,.arr 87 (((vM t r).take i).map rx))]⟩) ?_ ?_;refine wS [4004] [1,2,4,5,6,7,17] [4,5] ?_ ?_<;>intro h2';refine wS [3006] [1,2,4,5,6,7,21] [4,5] ?_ ?_<;>intro h3;refine wA [4,0,1,10002] [1,2,4,5,6,7] [4,5] ?_;rotate_left;refine wA [10002] [1,2,4,5,6,7] [4,5] ?_;rotate_left;refine wA [10008] [1,2,4,5,6,7] [4,5] ?_;rotate_left;rintro zs ⟨k,vN,X8,rfl⟩;refine wA [5,2] [1,2,4,6,28,33,34] [4,5] ?_;refine oN J J J J J (ih (r.kids.getD k default) (abI (abj (il adh) hr)) adh (hvk _ (aS adh))) ?_;refine wA [0,1000,6,9002] [1,2,4,5,6] [4,5] ?_;exact⟨_,⟨i+1,rfl,adh,by rw[bF (l:=vM t r) adh,aaK,X8];rfl⟩,adh⟩;refine wA [8] [2,4,5] [4,5] ?_;refine aD 56 [(2,_),(4,_),(5,_)] [(4,_)] ae J ⟨.inl J,.inl J,.inr ⟨_,_,rfl,rfl,rfl⟩,trivial⟩ ⟨rfl,trivial⟩ ?_;rw[show(vM t r).take i=vM t r from aa2 adh];refine Ve [3006] [2,4,5,40] [4] ?_ ?_<;>intro h4;refine wA [4] [4,41] [4] ?_;refine oN J J J J J (qZ (l:=vM t r) adh) ?_;refine wZ [5] ?_;refine ao J ?_;rotate_left;refine wS [3011] [2,4,5,45] [4] ?_ ?_<;>intro h5;refine wA [4] [4,46] [4] ?_;refine oN J J J J J (oh (l:=vM t r) (CD hv) adh) ?_;refine wZ [5] ?_;refine ao J ?_;rotate_left;refine wS [3011] [2,4,5,50] [4] ?_ ?_<;>intro h6;refine wA [4] [4,51] [4] ?_;refine oP J (dh J Tryz.underlying85 bY J J (by have:=(lL hv adh).2;omega) (fun _=>rfl)) ?_;refine wA [1] [4,53] [4] ?_;refine oN J J J J J (zh (x:=(vM t r).getD 0 default) (CD hv _ (aS (by have:=(lL hv adh).2;omega))) (by have:=gB (aS (l:=vM t r) (i:=0) (by have:=(lL hv adh).2;omega));omega)) ?_;refine wZ [5] ?_;refine ao J ?_;rotate_left;refine wZ [10] ?_;refine ao J ?_;rotate_left
 all_goals first
  | (
    first|exact⟨i,adh,VZ (by simp_all) adh,rfl⟩|exact⟨r.kids.length-1-i,adh,VY adk adh adh adh,by rw[show((r.kids.length-1-i:Nat):Int)=(r.kids.length:Int)-1-i by omega];first|done|rfl⟩;done)
  | (
    first|(rw[Y0 adh];first|done|rfl)|(rw[Y1 hv adh];first|done|rfl)|(rw[Y2 hv adh];first|done|rfl)|(rw[Y3 hv adh adh adh,fy];first|done|rfl);done)
theorem aao:ug Tryz.prog 67 Tryz.f67.ntmps 2 87 3 (Tryz.f67.body.getD .skip):=⟨Tryz.f67,Tryz.func67,rfl,rfl,rfl,adi,je,bY⟩
theorem gr {r:Rx}(h:r.size≤137438953472):aV Tryz.prog 67 [rx r] (.p (rx (dw r))):=by
 refine bh aao (aaz J) fun w0 M0 ae=>?_
 refine db [2,7] [1,2,3] [2] ?_;refine oC J J J J (lf _ r (aaD _) adh) ?_;refine wS [3003] [1,2,5] [2] ?_ ?_<;>intro h1;refine wZ [9] ?_;refine ao J ?_;rotate_left;refine wA [6] [2,7] [2] ?_;refine oN J J J J J (De false _ r (aaD _) h adk) ?_;refine wZ [4] ?_;refine ao J ?_;rotate_left
 all_goals
  first|(rw[show dw r=dO from if_neg (by simp_all)];first|done|rfl)|(rw[show dw r=aN false r from if_pos adk];first|done|rfl)
end Go.Proofs.YtlapahnodhmcpaaGreat
namespace Go.Wf
open Go.Am Go.Wb Go.Wc
def gd (x:Int):Rx:=.mk 2 [x] []
def Pt (x y:Rx):Rx:=dw (qe [x,y])
def jk (A:Nat)(n:Int):Rx:=if n % 8≤2 then .mk 1 [] [] else if n % 8=3 then gd 62 else if n % 8=4 then gd (n / 8 % (A:Int)) else if n % 8=5 then Pt (gd (n / 8 % (A:Int))) (gd (n / 8 / 7 % (A:Int)))
 else if n % 8=6 then Pt (gd (n / 8 % (A:Int))) (gd 62) else Pt (gd (n / 8 % (A:Int))) (gd 63)
variable{x:Int}
theorem Pu (h:0≤x∧x<64):Nf (gd x):=.set (by
 unfold jV;have hx:wj [x] 0:=by unfold wj;exact⟨h.1,h.2,fun q=>absurd q adj⟩
 simp[hx])
theorem mI (x:Int):(gd x).size=2:=by unfold gd;rw[dY];rfl
theorem sF {y:Int}(hx:0≤x∧x<64)(hy:0≤y∧y<64):∀z∈[gd x,gd y],Nf z:=fun z hz=>by
 simp only[aa3,acX,or_false] at hz;rcases hz with rfl|rfl
 ·exact Pu hx
 ·exact Pu hy
theorem kD (x y:Int):Rx.aE [gd x,gd y]=4:=by rw[Rx.aE,Rx.aE,Rx.aE,mI,mI]
theorem q7 {l:List Rx}(h:∀x∈l,Nf x):(qe l).size≤2+Rx.aE l:=by rw[w5 h];exact AQ l
theorem vj {y:Int}(hx:0≤x∧x<64)(hy:0≤y∧y<64):(Pt (gd x) (gd y)).size≤12:=by have h1:=q7 (sF hx hy);have h2:=AT (qe [gd x,gd y]);rw[kD] at h1;unfold Pt;omega
variable{A:Nat}
theorem vk (hA:0<A∧A≤60)(n:Int):0≤n % (A:Int)∧n % (A:Int)<64:=by have h1:=Int.emod_nonneg n (show(A:Int)≠0 by omega);have h2:=ac8 n (show 0<(A:Int) by omega);omega
theorem F2 (hA:0<A∧A≤60)(n:Int):(jk A n).size≤12:=by
 unfold jk;split
 · decide
 · split
   · rw[mI];omega
   · split
     · rw[mI];omega
     · split
       · exact vj (vk hA _) (vk hA _)
       · split
         · exact vj (vk hA _) adh
         · exact vj (vk hA _) adh
def zi (A:Nat)(x:Int):Int:=if x % 13=0 then 63 else x % (A:Int)
def j6 (A:Nat)(l:List Int)(i k:Nat):eS:=⟨zi A (aB l (9*i+5+k)),fT A (aB l (9*i+5+k) / 3) 2⟩
def fW (A:Nat)(l:List Int)(i:Nat):Nat→List eS
 | 0=>[]
 | k+1=>if k=0∨(j6 A l i k).src≠((fW A l i k).getD 0 default).src then fW A l i k++[j6 A l i k] else fW A l i k
theorem l4 {l:List Int}{i k:Nat}(h:k=0∨(j6 A l i k).src≠((fW A l i k).getD 0 default).src):fW A l i (k+1)=fW A l i k++[j6 A l i k]:=if_pos h
theorem tY {l:List Int}{i k:Nat}(h:¬(k=0∨(j6 A l i k).src≠((fW A l i k).getD 0 default).src)):fW A l i (k+1)=fW A l i k:=if_neg h
theorem vl (A:Nat)(l:List Int)(i:Nat):∀k,(fW A l i k).length≤k∧(0<k→0<(fW A l i k).length)
 | 0=>⟨aaD _,fun h=>absurd h adh⟩
 | k + 1 => by
   have:=vl A l i k;by_cases h:k=0∨(j6 A l i k).src≠((fW A l i k).getD 0 default).src
   · rw[l4 h,aaM];show _+1≤_∧(_→0<_+1);omega
   · rw [tY h]
     have h0:k≠0:=fun q=>h (.inl q)
     omega
def zj (A:Nat)(l:List Int)(i:Nat):aG:=⟨[114]++gT ((i:Int)+1),fW A l i (1+aB l (9*i+4) % 2).toNat,jk A (aB l (9*i+2)),jk A (aB l (9*i+3))⟩
theorem zk (A:Nat)(n most:Int):(fT A n most).length=(n % (most+1)).toNat:=by unfold fT;rw[aaA,aa1]
end Go.Wf
namespace Go.Proofs.YtlapahnodhmcpaaGreat
open Go.Am Go.Wb Go.Wc Go.Wf Go.We
theorem aap:ug Tryz.prog 90 Tryz.f90.ntmps 4 87 3 (Tryz.f90.body.getD .skip):=⟨Tryz.f90,Tryz.func90,rfl,rfl,rfl,adi,je,bY⟩
theorem tZ {a:List cP}{n:Int}(ha:0<a.length∧a.length≤60)(hn:0≤n∧n≤1000000000):aV Tryz.prog 90 [af a,int n] (.p (rx (jk a.length n))):=by
 have hk:=vk ha (n / 8);have hk7:=vk ha (n / 8 / 7);refine bh aap (aaz J) fun w0 M0 ae=>?_
 refine AD [8,7,0,0,5000] ?_;refine oN J J J J J (lg [n / 8 % (a.length:Int)]) ?_;refine wZ [6,5000] ?_;refine oN J J J J J (lg [62]) ?_;refine wS [8,3010] [0,4,5,6,7,19,20] [4,6,7] ?_ ?_<;>intro h1;refine wZ [13] ?_;refine ao J ?_;rotate_left;refine wS [3007] [0,4,5,6,7,19,20] [4,6,7] ?_ ?_<;>intro h2;refine wZ [13] ?_;refine ao J ?_;rotate_left;refine wS [3006] [0,4,5,6,7,19,20] [4,6,7] ?_ ?_<;>intro h3;refine wZ [10] ?_;refine ao J ?_;rotate_left;refine wS [3007] [0,4,5,6,7,19,25] [4,6,7] ?_ ?_<;>intro h4;refine wZ [10] ?_;refine ao J ?_;rotate_left;refine wS [3007] [0,4,5,6,7,19,28] [4,6,7] ?_ ?_<;>intro h5;refine wZ [10] ?_;refine ao J ?_;rotate_left;refine wS [3007] [0,4,5,6,7,19,31] [4,6,7] ?_ ?_<;>intro h6;refine wZ [2002,6002,6001,6000,6000,5000] ?_;refine oF J J J J J J J (lg [n / 8 / 7 % (a.length:Int)]) ?_;refine wZ [6000,5000] ?_;refine oF J J J J J J J (oh (l:=[gd (n / 8 % (a.length:Int)),gd (n / 8 / 7 % (a.length:Int))]) (sF adh adh) (by rw[kD];omega)) ?_;refine oF J J J J J J J (gr (r:=qe [gd (n / 8 % (a.length:Int)),gd (n / 8 / 7 % (a.length:Int))]) (by have:=q7 (sF (x:=n / 8 % (a.length:Int)) (y:=n / 8 / 7 % (a.length:Int)) adh adh);rw[kD] at this;omega)) ?_;refine b8 adi ?_;refine cB J (aW J J J bY J J J J adj J J ae) ?_;refine dN ?_;refine Dn [4] ?_;refine ao J ?_;rotate_left;refine wS [3007] [4,6,7,44] [4,6,7] ?_ ?_<;>intro h7;refine wZ [5,5000] ?_;refine oN J J J J J (oh (l:=[gd (n / 8 % (a.length:Int)),gd (62)]) (sF adh adh) (by rw[kD];omega)) ?_;refine wA [0] [4,49] [4] ?_;refine oN J J J J J (gr (r:=qe [gd (n / 8 % (a.length:Int)),gd (62)]) (by have:=q7 (sF (x:=n / 8 % (a.length:Int)) (y:=62) adh adh);rw[kD] at this;omega)) ?_;refine wZ [6] ?_;refine ao J ?_;rotate_left;refine wZ [2005,6001,5000] ?_;refine oF J J J J J J J (lg [63]) ?_;refine wZ [6000,5000] ?_;refine oF J J J J J J J (oh (l:=[gd (n / 8 % (a.length:Int)),gd (63)]) (sF adh adh) (by rw[kD];omega)) ?_;refine oF J J J J J J J (gr (r:=qe [gd (n / 8 % (a.length:Int)),gd (63)]) (by have:=q7 (sF (x:=n / 8 % (a.length:Int)) (y:=63) adh adh);rw[kD] at this;omega)) ?_;refine b8 adi ?_;refine cB J (aW J J J bY J J J J adj J J ae) ?_;refine dN ?_;refine Dn [2] ?_;refine ao J ?_;rotate_left
 all_goals
  unfold jk
  first
   | (rw[if_pos adh];rfl)
   | (rw[if_neg adh,if_pos adh];rfl)
   | (rw[if_neg adh,if_neg adh,if_pos adh];rfl)
   | (rw[if_neg adh,if_neg adh,if_neg adh,if_pos adh];rfl)
   | (rw[if_neg adh,if_neg adh,if_neg adh,if_neg adh,if_pos adh];rfl)
   | (rw[if_neg adh,if_neg adh,if_neg adh,if_neg adh,if_neg adh];rfl)
theorem aaq:ug Tryz.prog 63 Tryz.f63.ntmps 6 89 8 (Tryz.f63.body.getD .skip):=⟨Tryz.f63,Tryz.func63,rfl,rfl,rfl,adi,Zg,Hf⟩
theorem Lm {a:List cP}{l:List Int}{i:Nat}(ha:0<a.length∧a.length≤60)(hl:l.length≤9223372036854775807)(h64:iK l)(hi:i≤10):aV Tryz.prog 63 [af a,ints l,int i] (.p (aZ (zj a.length l i))):=by
 have hb:=fun k=>xb l k
 have hns:=mH ((i:Int)+1);have h4:=hb (9*i+4);refine bh aaq (aaz J) fun w0 M0 ae=>?_
 refine AD [8,5000] ?_;refine oN J J J J J (iC (n:=(i:Int)+1) adh) ?_;refine wA [0] [0,1,2,6,14] [6] ?_;refine oP J (iF J J J (by simp only[aaE,aaL];omega)) ?_;refine wZ [3,5000] ?_;refine oP J (c9 (a':=((9*i+2:Nat):Int)) (ey J J J adh) adh) ?_;refine wA [0] [0,1,2,6,15,16,17,20] [6] ?_;refine oC J J J J (fj (i:=9*i+2) h64 hl adh) ?_;refine oN J J J J J (tZ (n:=aB l (9*i+2)) ha (by have:=hb (9*i+2);omega)) ?_;refine wZ [3,5000] ?_;refine oP J (c9 (a':=((9*i+3:Nat):Int)) (ey J J J adh) adh) ?_;refine wA [0] [0,1,2,6,15,22,23,24,27] [6] ?_;refine oC J J J J (fj (i:=9*i+3) h64 hl adh) ?_;refine oN J J J J J (tZ (n:=aB l (9*i+3)) ha (by have:=hb (9*i+3);omega)) ?_;refine wZ [9,5000] ?_;refine oP J (c9 (a':=((9*i+4:Nat):Int)) (ey J J J adh) adh) ?_;refine wA [0] [0,1,2,6,7,31,34] [6,7] ?_;refine oC J J J J (fj (i:=9*i+4) h64 hl adh) ?_;refine wA [0,0,5] [0,1,2,6,7,8] [6,7] ?_;refine bN 7 1 40 132 89 ae J J J J ?_;refine gV [5] [0,1,2,6,7,8,9] [6,7,40] ?_;have h4:=hb (9*i+4);have h42:0≤aB l (9*i+4) % 2∧aB l (9*i+4) % 2<2:=adh;refine lp (fun zm zs=>∃k:Nat,zm=2-k∧((k:Int)≤1+aB l (9*i+4) % 2)∧zs=⟨82,[(0,vvw (af a)),(1,vvw (ints l)),(2,vvw (int i)),(6,.pbox 6 0),(7,.pbox 7 0),(8,vvw (int (1+aB l (9*i+4) % 2))),(9,vvw (int k))],[(6,.box 89 [vvw (.sc (.string ⟨#[]⟩)),vvv,vvw (.sc (.int .i64 0)),vvv,vvv,vvw (.sc (.int .i64 0)),vvv,vvv]),(7,.box 89 [vvw (ak ([114]++gT ((i:Int)+1))),.own 40,vvw (int (jk a.length (aB l (9*i+2))).kind),vvw (ints (jk a.length (aB l (9*i+2))).syms),vvw (.sl (Rx.gv (jk a.length (aB l (9*i+2))).kids)),vvw (int (jk a.length (aB l (9*i+3))).kind),vvw (ints (jk a.length (aB l (9*i+3))).syms),vvw (.sl (Rx.gv (jk a.length (aB l (9*i+3))).kids))]),(40,.arr 132 ((fW a.length l i k).map yB))]⟩) ?_ ?_;exact⟨_,0,rfl,adh,rfl⟩;rintro zm zs ⟨k,rfl,aY,rfl⟩;have hpl:=vl a.length l i k;have hbk:=hb (9*i+5+k);refine wS [3008] [0,1,2,6,7,8,9,40] [6,7,40] ?_ ?_<;>intro h1;refine wA [9,0,1] [0,1,2,6,7,8,9,43,46,47] [6,7,40] ?_;refine oP J (c9 (a':=((9*i+5+k:Nat):Int)) (ey J J J adh) adh) ?_;refine oC J J J J (fj (i:=9*i+5+k) h64 hl adh) ?_;refine wA [4] [0,1,2,6,7,8,9,10] [6,7,40] ?_;refine dC [9,10] [[(6,.box 89 [vvw (.sc (.string ⟨#[]⟩)),vvv,vvw (.sc (.int .i64 0)),vvv,vvv,vvw (.sc (.int .i64 0)),vvv,vvv]),(7,.box 89 [vvw (ak ([114]++gT ((i:Int)+1))),.own 40,vvw (int (jk a.length (aB l (9*i+2))).kind),vvw (ints (jk a.length (aB l (9*i+2))).syms),vvw (.sl (Rx.gv (jk a.length (aB l (9*i+2))).kids)),vvw (int (jk a.length (aB l (9*i+3))).kind),vvw (ints (jk a.length (aB l (9*i+3))).syms),vvw (.sl (Rx.gv (jk a.length (aB l (9*i+3))).kids))]),(40,.arr 132 ((fW a.length l i k).map yB))],[(6,.box 89 [vvw (.sc (.string ⟨#[]⟩)),vvv,vvw (.sc (.int .i64 0)),vvv,vvv,vvw (.sc (.int .i64 0)),vvv,vvv]),(7,.box 89 [vvw (ak ([114]++gT ((i:Int)+1))),.own 40,vvw (int (jk a.length (aB l (9*i+2))).kind),vvw (ints (jk a.length (aB l (9*i+2))).syms),vvw (.sl (Rx.gv (jk a.length (aB l (9*i+2))).kids)),vvw (int (jk a.length (aB l (9*i+3))).kind),vvw (ints (jk a.length (aB l (9*i+3))).syms),vvw (.sl (Rx.gv (jk a.length (aB l (9*i+3))).kids))]),(11,.box 132 [vvw (int 0),vvv]),(40,.arr 132 ((fW a.length l i k).map yB))],[(6,.box 89 [vvw (.sc (.string ⟨#[]⟩)),vvv,vvw (.sc (.int .i64 0)),vvv,vvv,vvw (.sc (.int .i64 0)),vvv,vvv]),(7,.box 89 [vvw (ak ([114]++gT ((i:Int)+1))),.own 40,vvw (int (jk a.length (aB l (9*i+2))).kind),vvw (ints (jk a.length (aB l (9*i+2))).syms),vvw (.sl (Rx.gv (jk a.length (aB l (9*i+2))).kids)),vvw (int (jk a.length (aB l (9*i+3))).kind),vvw (ints (jk a.length (aB l (9*i+3))).syms),vvw (.sl (Rx.gv (jk a.length (aB l (9*i+3))).kids))]),(11,.box 132 [vvw (int (aB l (9*i+5+k) % (a.length:Int))),vvw (ints (fT a.length (aB l (9*i+5+k) / 3) 2))]),(40,.arr 132 ((fW a.length l i k).map yB))]] 11 [] [(50,vvw (int (aB l (9*i+5+k)))),(51,vvw (af a)),(52,vvw (int a.length)),(53,vvw (int (aB l (9*i+5+k) % (a.length:Int)))),(54,vvw (af a)),(55,vvw (int (aB l (9*i+5+k)))),(56,vvw (int (aB l (9*i+5+k) / 3))),(57,vvw (ints (fT a.length (aB l (9*i+5+k) / 3) 2))),(58,vvw (yB ⟨aB l (9*i+5+k) % (a.length:Int),fT a.length (aB l (9*i+5+k) / 3) 2⟩)),(11,.pbox 11 0),(0,vvw (af a)),(1,vvw (ints l)),(2,vvw (int i)),(6,.pbox 6 0),(7,.pbox 7 0),(8,vvw (int (1+aB l (9*i+4) % 2))),(9,vvw (int k)),(10,vvw (int (aB l (9*i+5+k))))] (ai bV (ai bV (ai bV (ai bV (ai bV (ai bV (ai bV (ai (fun _=>(bE J J J ((au.weaken (c6 (n:=aB l (9*i+5+k) / 3) (most:=2) adh (by have:=hb (9*i+5+k);omega) adh))) ae)) (ai bV trivial))))))))) (ai (fun X eC dv cZ=>ij (t:=11) J J J J eC Oo J J (fun t' z h hne=>fK (by rfl) (dv t' z h) hne) J ae) (ai (fun X eC dv cZ=>cz J (cy (u:=11) (v:=58) (id:=11) J J eC Wn ((cZ 11 adj).trans J) J ((cZ 58 adj).trans J) J adj J J (fun t' z h=>cS (by rfl) (dv t' z h)) J ae)) (trivial))) ?_;refine bM (n:=0) adi ?_;refine bf adi ?_;refine hZ [5] [0,1,2,6,7,8,9,11,59] [6,7,11,40] ?_;refine wS [0,3003] [0,1,2,6,7,8,9,11,61] [6,7,11,40] ?_ ?_<;>intro h2;refine wS [2007,7003] [0,1,2,6,7,8,9,11,65] [6,7,11,40] ?_ ?_<;>intro h3';refine wA [16,1000,7,9002] [0,1,2,6,7,8,9] [6,7,40] ?_;have e:j6 a.length l i k=⟨63,fT a.length (aB l (9*i+5+k) / 3) 2⟩:=by unfold j6 zi;rw[if_pos adh]
 exact⟨_,⟨k+1,rfl,adh,by rw[l4 (.inl (by simp_all)),e,aaK];rfl⟩,adh⟩;refine wZ [6004,5000] ?_;refine oD J J J (bn J IS J J) ?_;refine wS [6000,3004] [0,1,2,6,7,8,9,11,74] [6,7,11,40] ?_ ?_<;>intro h4;refine wA [5,1000,7,9002] [0,1,2,6,7,8,9] [6,7,40] ?_;have e:j6 a.length l i k=⟨63,fT a.length (aB l (9*i+5+k) / 3) 2⟩:=by unfold j6 zi;rw[if_pos adh]
 exact⟨_,⟨k+1,rfl,adh,by rw[l4 (.inr (by rw[e];simp_all)),e,aaK];rfl⟩,adh⟩;refine wA [6,9002] [0,1,2,6,7,8,9] [6,7,40] ?_;have e:j6 a.length l i k=⟨63,fT a.length (aB l (9*i+5+k) / 3) 2⟩:=by unfold j6 zi;rw[if_pos adh]
 exact⟨_,⟨k+1,rfl,adh,by rw[tY (by rw[e];simp_all)];rfl⟩,adh⟩;refine wS [2004,7003] [0,1,2,6,7,8,9,11,65] [6,7,11,40] ?_ ?_<;>intro h5';refine wA [16,1000,7,9002] [0,1,2,6,7,8,9] [6,7,40] ?_;have e:j6 a.length l i k=⟨aB l (9*i+5+k) % (a.length:Int),fT a.length (aB l (9*i+5+k) / 3) 2⟩:=by unfold j6 zi;rw[if_neg adh]
 exact⟨_,⟨k+1,rfl,adh,by rw[l4 (.inl (by simp_all)),e,aaK];rfl⟩,adh⟩;refine wZ [6004,5000] ?_;refine oD J J J (bn J IS J J) ?_;refine wS [6000,3004] [0,1,2,6,7,8,9,11,74] [6,7,11,40] ?_ ?_<;>intro h6;refine wA [5,1000,7,9002] [0,1,2,6,7,8,9] [6,7,40] ?_;have e:j6 a.length l i k=⟨aB l (9*i+5+k) % (a.length:Int),fT a.length (aB l (9*i+5+k) / 3) 2⟩:=by unfold j6 zi;rw[if_neg adh]
 exact⟨_,⟨k+1,rfl,adh,by rw[l4 (.inr (by rw[e];simp_all)),e,aaK];rfl⟩,adh⟩;refine wA [6,9002] [0,1,2,6,7,8,9] [6,7,40] ?_;have e:j6 a.length l i k=⟨aB l (9*i+5+k) % (a.length:Int),fT a.length (aB l (9*i+5+k) / 3) 2⟩:=by unfold j6 zi;rw[if_neg adh]
 exact⟨_,⟨k+1,rfl,adh,by rw[tY (by rw[e];simp_all)];rfl⟩,adh⟩;refine wA [7] [6,7] [6,7,40] ?_;refine aw.imp (ik 7 1 ae J J J J) ?_;refine oJ [6] ?_;refine ao J ?_;unfold zj;rw[show(1+aB l (9*i+4) % 2).toNat=k by omega];rfl
end Go.Proofs.YtlapahnodhmcpaaGreat
namespace Go.Wf
open Go.Am Go.Wb Go.Wc
def rR (R:List aG)(n:Int):List (List UInt8):=if R.length=0 then[] else(List.range (n % 3).toNat).map fun i:Nat=>(R.getD ((n / 3+(i:Int)) % (R.length:Int)).toNat default).name
theorem zn (R:List aG)(n:Int):(rR R n).length≤2:=by
 unfold rR;split
 ·exact aaG _
 ·rw[aaA,aa1];omega
def kO (l:List Int)(i k:Nat):List Int:=((List.range k).filter fun j=>decide (j=i)||decide (aB l (1+i) / ((j:Int)+1) % 3=0)).map fun j:Nat=>(j:Int)
theorem F3 {l:List Int}{i k:Nat}(h:k=i∨aB l (1+i) / ((k:Int)+1) % 3=0):kO l i (k+1)=kO l i k++[(k:Int)]:=by unfold kO;rw[abB,abG,aaK,abz,if_pos (by simpa using h),acf];rfl
theorem RM {l:List Int}{i k:Nat}(h:¬(k=i∨aB l (1+i) / ((k:Int)+1) % 3=0)):kO l i (k+1)=kO l i k:=by unfold kO;rw[abB,abG,aaK,abz,if_neg (by simpa using h),acf,abW,abe]
theorem eJ (l:List Int)(i k:Nat):(kO l i k).length≤k:=by unfold kO;rw[aaA];exact abb (abT _ _) (by rw[aa1];exact aaD _)
abbrev HY:List (List UInt8):=[[118],[108,111,110,103,46,115,101,116,45,50]]
def aar (A:Nat)(l:List Int)(i:Nat):Q6:=⟨HY.getD i default,kO l i A⟩
def gI (A:Nat)(l:List Int)(R:List aG)(i k:Nat):gE:=⟨[99]++gT ((k:Int)+1),fT A (aB l (40+5*i+k) % 2) 1,fT A (aB l (40+5*i+k) / 2) 2,rR R (aB l (40+5*i+k) / 9)⟩
def gU (A:Nat):Rx:=.mk 2 ((List.range A).map fun k:Nat=>(k:Int)) []
def bW (A:Nat):Rx:=rG (gU A)
def kl (A:Nat)(x:Int):Rx:=if x % 5=4 then dw (c4 [gU A,bW A]) else if x % 5=3 then dw (c4 [bW A,gd (x / 5 % (A:Int))]) else dw (bW A)
def Pv (A:Nat)(l:List Int)(R:List aG)(i:Nat):eu:=⟨[110]++gT ((i:Int)+1),kl A (aB l (31+i)),aB l (31+i) % 2,(List.range (2+aB l (31+i) / 7 % 3).toNat).map (gI A l R i)⟩
def eT (A:Nat)(l:List Int)(k:Nat):List Q6:=(List.range k).map (aar A l)
def dd (A:Nat)(l:List Int)(k:Nat):List aG:=(List.range k).map (zj A l)
def eO (A:Nat)(l:List Int)(R:List aG)(k:Nat):List eu:=(List.range k).map (Pv A l R)
def gR (A:Nat)(l:List Int):List aG:=dd A l (1+aB l 1 % 3).toNat
def zp (A:Nat)(l:List Int):aA:=⟨eT A l (aB l 0 % 3).toNat,gR A l,eO A l (gR A l) (1+aB l 30 % 3).toNat,rR (gR A l) (aB l 60)⟩
theorem oi (A:Nat)(l:List Int)(k:Nat):(dd A l k).length=k:=by unfold dd;rw[aaA,aa1]
variable{A:Nat}
theorem BG {j:Nat}(h:j<A):((List.range A).map fun k:Nat=>(k:Int)).getD j default=(j:Int):=by rw[cU (by simpa using h)];simp
theorem F4 (hA:0<A∧A≤60):Nf (gU A):=.set (by
 unfold jV;refine decide_eq_true ⟨by simpa using hA.1,fun j hj=>?_⟩;have hj:j<A:=by simpa using hj
 unfold wj;rw[BG hj];refine⟨adh,adh,fun h0=>?_⟩;rw[show((j:Int)-1).toNat=j-1 by omega,BG adh];omega)
theorem sG (A:Nat):(gU A).size=1+A:=by unfold gU;rw[dY,aaA,aa1];rfl
theorem Pw (hA:0<A∧A≤60):(bW A).size≤2+A:=by unfold bW;rw[ES (F4 hA)];have:=ye (gU A);rw[sG] at this;omega
theorem q8 (x y:Rx):Rx.aE [x,y]=x.size+y.size:=by rw[Rx.aE,Rx.aE,Rx.aE];omega
theorem qt (x y:Rx):(c4 [x,y]).size≤1+x.size+y.size:=by have:=uI [x,y];rw[q8] at this;omega
theorem Ln (hA:0<A∧A≤60)(x:Int):(kl A x).size≤300∧(dw (kl A x)).size≤300:=by
 have h1:=Pw hA;have h2:=sG A;have h3:=mI (x / 5 % (A:Int));have key:∀r:Rx,r.size≤150→(dw r).size≤300∧(dw (dw r)).size≤300:=fun r h=>by
  have:=AT r;rw[Qp (qS r)];omega
 unfold kl;split
 ·exact key _ (by have:=qt (gU A) (bW A);omega)
 ·split
  ·exact key _ (by have:=qt (bW A) (gd (x / 5 % (A:Int)));omega)
  ·exact key _ adh
theorem sH {A:Nat}{l:List Int}{i:Nat}:∀{k:Nat}{p:eS},p∈fW A l i k→p.dst.length≤2
 | 0,p,h=>by cases h
 | k + 1, p, h => by
   by_cases q:k=0∨(j6 A l i k).src≠((fW A l i k).getD 0 default).src
   · rw [l4 q] at h
     rcases abl.1 h with h|h
     · exact sH h
     · rw [aaY.1 h]
       show(fT A _ 2).length≤2;rw[zk];omega
   · rw[tY q] at h;exact sH h
theorem Px (hA:0<A∧A≤60)(l:List Int)(i:Nat):LA (zj A l i):=by
 have h1:=F2 hA (aB l (9*i+2));have h2:=F2 hA (aB l (9*i+3));have h3:=(vl A l i (1+aB l (9*i+4) % 2).toNat).1;refine⟨?_,fun p hp=>abb (sH hp) adj,?_,?_⟩
 ·show(fW A l i _).length≤_;omega
 ·show(jk A _).size≤_;omega
 ·show(jk A _).size≤_;omega
theorem Lo (hA:0<A∧A≤60)(l:List Int)(R:List aG)(i:Nat):UB (Pv A l R i):=by
 have hf:=Ln hA (aB l (31+i));refine⟨?_,fun x hx=>?_,?_,?_⟩
 ·show(List.map _ _).length≤_;rw[aaA,aa1];omega
 ·obtain⟨k,_,rfl⟩:=aa7.1 hx;refine⟨?_,?_,abb (zn _ _) adj⟩
  ·show(fT A _ 1).length≤_;rw[zk];omega
  ·show(fT A _ 2).length≤_;rw[zk];omega
 ·show(kl A _).size≤_;omega
 ·show(dw (kl A _)).size≤_;omega
theorem qu (hA:0<A∧A≤60)(l:List Int):mB (zp A l):=by
 refine⟨?_,fun r hr=>?_,?_,fun c hc=>?_,abb (zn _ _) adj⟩
 ·show(dd A l _).length≤_;rw[oi];omega
 ·obtain⟨i,_,rfl⟩:=aa7.1 hr;exact Px hA l i
 ·show(List.map _ _).length≤_;rw[aaA,aa1];omega
 ·obtain⟨i,_,rfl⟩:=aa7.1 hc;exact Lo hA l _ i
theorem BH (A:Nat)(l:List Int):0<(zp A l).classes.length∧(zp A l).classes.length≤3:=by show 0<(List.map _ _).length∧(List.map _ _).length≤3;have:=xb l 30;rw[aaA,aa1];omega
end Go.Wf
namespace Go.Proofs.YtlapahnodhmcpaaGreat
open Go.Am Go.Wb Go.Wc Go.Wf Go.We
abbrev aas:=dT 4 Tryz.func71
theorem oj {g:aA}{n:Int}(hr:g.rules.length≤1000)(hn:0≤n∧n≤1000000000):au Tryz.prog 71 [cD g,int n] (.fresh 9 ((rR g.rules n).map ak)):=by
 refine cF aas fun w0 M0 ae=>?_
 refine db [2,1005,9] [1,2,5,6] [5] ?_;refine lr (fun zl zo zm zs=>∃i:Nat,zm=3-i∧((i:Int)≤n % 3)∧(0<i→0<g.rules.length)∧zs=eV 36 [(6,vvw (int i))] zl [(5,.arr 9 (((List.range i).map fun i:Nat=>(g.rules.getD ((n / 3+(i:Int)) % (g.rules.length:Int)).toNat default).name).map ak))] zo) ?_ ?_;exact⟨_,0,rfl,adh,adh,rfl⟩;rintro zm zs ⟨i,rfl,aY,ax,rfl⟩;refine wS [5,4002] [1,2,5,6,11] [5] ?_ ?_<;>intro h1';refine wS [2,3004] [1,2,5,6,16] [5] ?_ ?_<;>intro h2;have hi1:=Int.emod_nonneg (n / 3+(i:Int)) (show(g.rules.length:Int)≠0 by omega);have hi2:=ac8 (n / 3+(i:Int)) (show 0<(g.rules.length:Int) by omega);refine wA [5] [1,2,5,6] [5] ?_;refine dC [15] [[(5,.arr 9 (((List.range i).map fun i:Nat=>(g.rules.getD ((n / 3+(i:Int)) % (g.rules.length:Int)).toNat default).name).map ak))],[(34,.arr 9 (((List.range i).map fun i:Nat=>(g.rules.getD ((n / 3+(i:Int)) % (g.rules.length:Int)).toNat default).name).map ak++[ak (g.rules.getD ((n / 3+(i:Int)) % (g.rules.length:Int)).toNat default).name]))]] 16 [(0,[0])] [(19,.own 5),(20,vvz (.pc (tD g) 1)),(21,vvz (.sl (g.rules.map aZ))),(22,vvz (int n)),(23,vvw (int (n / 3))),(24,vvw (int i)),(25,vvw (int (n / 3+(i:Int)))),(26,vvz (.pc (tD g) 1)),(27,vvz (.sl (g.rules.map aZ))),(28,vvw (int g.rules.length)),(29,vvw (int ((n / 3+(i:Int)) % (g.rules.length:Int)))),(30,vvz (.pc (IU (g.rules.getD ((n / 3+(i:Int)) % (g.rules.length:Int)).toNat default)) 0)),(31,vvz (.pc (IU (g.rules.getD ((n / 3+(i:Int)) % (g.rules.length:Int)).toNat default)) 0)),(32,vvw (ak (g.rules.getD ((n / 3+(i:Int)) % (g.rules.length:Int)).toNat default).name)),(33,vvw (.sl [ak (g.rules.getD ((n / 3+(i:Int)) % (g.rules.length:Int)).toNat default).name])),(34,.own 34),(1,vvz (int n)),(2,vvz (.pc (tD g) 0)),(5,.own 5),(6,vvw (int i))] (ai (ai kW (trivial)) (ai bV (ai bV (ai bV (ai bV (ai bV (ai bV (ai bV (ai bV (ai bV (ai bV (ai (fun _=>(j5 (f:=aZ) (l:=g.rules) (i:=((n / 3+(i:Int)) % (g.rules.length:Int)).toNat) (z:=g.rules.getD ((n / 3+(i:Int)) % (g.rules.length:Int)).toNat default) J J Tryz.underlying25 Hf J J adh (fun _=>rfl))) (ai bV (ai (fun _=>(MD (Ab J ag9 J J))) (ai bV trivial))))))))))))))) (ai (fun X eC dv cZ=>ck (T:=27) (t:=34) (u:=19) (id:=5) (y:=.tmp 33) J J J eC Tryz.underlying27 V0 ((cZ 19 adj).trans J) J (cA (gp ((cZ 33 adj).trans J)) (bO (by rfl))) (by rw[aaA,aaA,aa1];simp only[aaE,aaL];omega) (by rw[aaA,aaA,aa1];simp only[aaE,aaL];omega) J dv J J J ae) (trivial)) ?_;refine bM (n:=1) adi ?_;refine xe 16 ?_;refine bf adi ?_;refine hZ [2] [1,2,5,6] [34] ?_;refine aw.imp (td 5 5 ae J J J J) ?_;refine gV [2,9002] [1,2,5,6] [5] ?_;exact⟨_,⟨i+1,rfl,adh,adh,by rw[abB,aaK,aaK];rfl⟩,adh⟩;refine wZ [8013] ?_;rotate_left;refine wZ [8020] ?_;rotate_left
 all_goals
  unfold rR;by_cases h0:g.rules.length=0<;>first|(rw[if_pos h0,show i=0 by omega];rfl)|(rw[if_neg h0,show(n % 3).toNat=i by omega])
end Go.Proofs.YtlapahnodhmcpaaGreat
