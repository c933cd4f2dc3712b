/-
  Part of the proof.
-/
import Derived.Test.YtlapahnodhmcpaaGreatX7
set_option linter.unusedVariables false
set_option linter.unusedSectionVars false
set_option linter.unusedSimpArgs false
set_option maxRecDepth 100000
set_option maxHeartbeats 40000000
namespace Go.Proofs.YtlapahnodhmcpaaGreat
open Go.Am Go.Wb
abbrev WY:=dT 2 Tryz.func122
theorem o6 {l:List Int}(hl:l.length≤1099511627776):lB Tryz.prog 122 [.own 0] [(0,.arr 3 (l.map int))] (.own 0) [(0,.arr 3 ((sJ (fun x y=>decide (x=y)) l).map int))]:=by
 refine gL WY (aaz J) fun w0 M0 ae=>?_
 refine pO [9,3003] [0,8] [0] ?_ ?_<;>intro h1;refine wZ [9] ?_;refine eG (o1:=[(0,_)]) J ⟨rfl,trivial⟩ ?_;rw[uB adh];exact⟨rfl,rfl⟩;refine wA [10] [0,3] [0] ?_;refine lp (fun zm zs=>∃q:Nat,zm=l.length-q∧(1≤q)∧(q≤l.length)∧(eA (fun x y=>decide (x=y)) l q=l.take q)∧zs=⟨61,[(0,.own 0),(3,vvw (int q))],[(0,.arr 3 (l.map int))]⟩) ?_ ?_;exact⟨_,1,rfl,aaD _,adh,by rw[tg,bF adh];rfl,rfl⟩;rintro zm zs ⟨q,rfl,aY,ax,c7,rfl⟩;have e0:((q:Int)-1).toNat=q-1:=adh;refine wS [5,3003] [0,3,13] [0] ?_ ?_<;>intro h2;refine wS [2006,6002,6000,6002,6000,6000,3003] [0,3,25] [0] ?_ ?_<;>intro h3;refine wA [5] [0,3,26,27] [0] ?_;refine oP J (ec J Tryz.underlying22 w6 J J J (by first|(simp only[ll];omega)|omega)) ?_;refine wA [10] [0,3,4,5] [0] ?_;refine lp (fun zm zs=>∃(ys:List Int)(k j:Nat),zm=l.length-q-j∧(1≤j)∧(q+j≤l.length)∧(ys.length=l.length)∧(eA (fun x y=>decide (x=y)) l (q+j)=ys.take k)∧(k+1≤q+j)∧(∀i,q+j≤i+1→ys.getD i default=l.getD i default)∧zs=⟨61,[(0,.own 0),(3,vvw (int k)),(4,.vsl 0 q ((l.map int).length-q)),(5,vvw (int j))],[(0,.arr 3 (ys.map int))]⟩) ?_ ?_;rw[e0] at h3;exact⟨_,l,q,1,rfl,aaD _,adh,rfl,(nN adh (decide_eq_true h3)).trans c7,aaD _,fun i _=>rfl,rfl⟩;rintro zm zs ⟨ys,k,j,rfl,gi,gj,nc,qj,SX,iA,rfl⟩;refine wS [5,3003] [0,3,4,5,32] [0] ?_ ?_<;>intro h4;refine wS [2006,6002,6000,6002,6000,6000,3003] [0,3,4,5,44] [0] ?_ ?_<;>intro h5;refine wZ [7,0,0,5000] ?_;refine oS J (aj J J J w6 J J (e9 (by first|(simp only[ll];omega)|omega)) J J (.inl J) J (aaz J) ae) J ?_;refine wA [4,6,9002] [0,3,4,5] [0] ?_;have e1:((j:Int)-1).toNat=j-1:=adh;rw[e1,iA (q+j) adh,iA (q+(j-1)) adh] at h5;refine⟨_,⟨ys.set k (l.getD (q+j) default),k+1,j+1,rfl,adh,adh,by simpa using nc,Cg adh qj ?_,adh,fun i hi=>?_,?_⟩,adh⟩
 ·rw[show q+j-1=q+(j-1) by omega];exact decide_eq_false h5
 ·rw[lK adh];exact iA i adh
 ·rw[adf,←iA (q+j) adh];rfl
 refine wA [6,9002] [0,3,4,5] [0] ?_;have e1:((j:Int)-1).toNat=j-1:=adh;rw[e1,iA (q+j) adh,iA (q+(j-1)) adh] at h5;refine⟨_,⟨ys,k,j+1,rfl,adh,adh,nc,xW adh qj ?_,adh,fun i hi=>iA i adh,rfl⟩,adh⟩;rw[show q+j-1=q+(j-1) by omega];exact decide_eq_true h5;refine wA [10] [0,3,54,55] [0] ?_;refine oP J (ec J Tryz.underlying22 w6 J J J (by first|(simp only[ll];omega)|omega)) ?_;refine oS J (jU (zv:=int 0) J J J Tryz.underlying22 w6 J J Yn adj J J ae) J ?_;refine wA [6] [57,58] [0] ?_;refine oP J (ie J Tryz.underlying22 w6 J J J (by first|(simp only[ll];omega)|omega)) ?_;refine pF 59 J J ae J ?_;refine GM [9] ?_;refine eG (o1:=[(0,_)]) J ⟨rfl,trivial⟩ ?_;refine⟨rfl,?_⟩;rw[←Ch (f:=int) (k:=k) (n:=q+j) adh adh qj];rfl;refine wA [6,9002] [0,3] [0] ?_;rw[e0] at h3;exact⟨_,⟨q+1,rfl,adh,adh,uC adh c7 (decide_eq_false h3),rfl⟩,adh⟩;refine wZ [13] ?_;refine eG (o1:=[(0,_)]) J ⟨rfl,trivial⟩ ?_;rw[Ci (n:=q) adh c7];exact⟨rfl,rfl⟩
abbrev WZ:=dT 4 Tryz.func253
variable{l:List Rx}
theorem rJ {eq:Rx→Rx→Bool}{g:FuncId}(hl:l.length≤1099511627776)(hf:∀x∈l,∀y∈l,au Tryz.prog g [rx x,rx y] (.p (bool (eq x y)))) :
  lB Tryz.prog 253 [.own 0,vvw (.clo g [])] [(0,.arr 87 (l.map rx))] (.own 0) [(0,.arr 87 ((sJ eq l).map rx))]:=by
 refine gL WZ (aaz J) fun w0 M0 ae=>?_
 refine pO [9,3003] [0,1,10] [0] ?_ ?_<;>intro h1;refine wZ [9] ?_;refine eG (o1:=[(0,_)]) J ⟨rfl,trivial⟩ ?_;rw[uB adh];exact⟨rfl,rfl⟩;refine wA [10] [0,1,5] [0] ?_;refine lp (fun zm zs=>∃q:Nat,zm=l.length-q∧(1≤q)∧(q≤l.length)∧(eA (eq) l q=l.take q)∧zs=⟨66,[(0,.own 0),(1,vvw (.clo g [])),(5,vvw (int q))],[(0,.arr 87 (l.map rx))]⟩) ?_ ?_;exact⟨_,1,rfl,aaD _,adh,by rw[tg,bF adh];rfl,rfl⟩;rintro zm zs ⟨q,rfl,aY,ax,c7,rfl⟩;have e0:((q:Int)-1).toNat=q-1:=adh;refine wS [5,3003] [0,1,5,15] [0] ?_ ?_<;>intro h2;refine wZ [2006,6003,6000,6002,6000,6000,5000] ?_;refine oE J J J J J J (hf _ (aS adh) _ (aS adh)) ?_;refine wS [3002] [0,1,5,28] [0] ?_ ?_<;>intro h3;refine wA [5] [0,1,5,29,30] [0] ?_;refine oP J (ec J Tryz.underlying85 bY J J J (by first|(simp only[ll];omega)|omega)) ?_;refine wA [10] [0,1,5,6,7] [0] ?_;refine lp (fun zm zs=>∃(ys:List Rx)(k j:Nat),zm=l.length-q-j∧(1≤j)∧(q+j≤l.length)∧(ys.length=l.length)∧(eA (eq) l (q+j)=ys.take k)∧(k+1≤q+j)∧(∀i,q+j≤i+1→ys.getD i default=l.getD i default)∧(∀x∈ys,x∈l)∧zs=⟨66,[(0,.own 0),(1,vvw (.clo g [])),(5,vvw (int k)),(6,.vsl 0 q ((l.map rx).length-q)),(7,vvw (int j))],[(0,.arr 87 (ys.map rx))]⟩) ?_ ?_;rw[e0] at h3;exact⟨_,l,q,1,rfl,aaD _,adh,rfl,(nN adh (h3)).trans c7,aaD _,fun i _=>rfl,fun x hx=>hx,rfl⟩;rintro zm zs ⟨ys,k,j,rfl,gi,gj,nc,qj,SX,iA,tG,rfl⟩;refine wS [5,3003] [0,1,5,6,7,35] [0] ?_ ?_<;>intro h4;refine wZ [2006,6003,6000,6002,6000,6000,5000] ?_;refine oE J J J J J J (hf _ (tG _ (aS adh)) _ (tG _ (aS adh))) ?_;refine wS [3003] [0,1,5,6,7,49] [0] ?_ ?_<;>intro h5;refine wZ [7,0,0,5000] ?_;refine oS J (aj J J J bY J J (e9 (by first|(simp only[ll];omega)|omega)) J J (.inl J) J (aaz J) ae) J ?_;refine wA [4,6,9002] [0,1,5,6,7] [0] ?_;have e1:((j:Int)-1).toNat=j-1:=adh;rw[e1,iA (q+j) adh,iA (q+(j-1)) adh] at h5;refine⟨_,⟨ys.set k (l.getD (q+j) default),k+1,j+1,rfl,adh,adh,by simpa using nc,Cg adh qj ?_,adh,fun i hi=>?_,fun x hx=>?_,?_⟩,adh⟩
 ·rw[show q+j-1=q+(j-1) by omega];exact h5
 ·rw[lK adh];exact iA i adh
 ·rcases acK hx with hx|rfl
  ·exact tG x hx
  ·exact aS adh
 ·rw[adf,←iA (q+j) adh];rfl
 refine wA [6,9002] [0,1,5,6,7] [0] ?_;have e1:((j:Int)-1).toNat=j-1:=adh;rw[e1,iA (q+j) adh,iA (q+(j-1)) adh] at h5;refine⟨_,⟨ys,k,j+1,rfl,adh,adh,nc,xW adh qj ?_,adh,fun i hi=>iA i adh,tG,rfl⟩,adh⟩;rw[show q+j-1=q+(j-1) by omega];exact h5;refine wA [10] [0,5,59,60] [0] ?_;refine oP J (ec J Tryz.underlying85 bY J J J (by first|(simp only[ll];omega)|omega)) ?_;refine oS J (jU (zv:=.agg [int 0,.sc (.slice none 0 0),.sc (.slice none 0 0)]) J J J Tryz.underlying85 bY J J my adj J J ae) J ?_;refine wA [6] [62,63] [0] ?_;refine oP J (ie J Tryz.underlying85 bY J J J (by first|(simp only[ll];omega)|omega)) ?_;refine pF 64 J J ae J ?_;refine GM [9] ?_;refine eG (o1:=[(0,_)]) J ⟨rfl,trivial⟩ ?_;refine⟨rfl,?_⟩;rw[←Ch (f:=rx) (k:=k) (n:=q+j) adh adh qj];rfl;refine wA [6,9002] [0,1,5] [0] ?_;rw[e0] at h3;exact⟨_,⟨q+1,rfl,adh,adh,uC adh c7 (h3),rfl⟩,adh⟩;refine wZ [13] ?_;refine eG (o1:=[(0,_)]) J ⟨rfl,trivial⟩ ?_;rw[Ci (n:=q) adh c7];exact⟨rfl,rfl⟩
abbrev Q9 (s:List Int)(k:List Rx):List (Nat×Ob):=[(10,.arr 3 (s.map int)),(11,.arr 87 (k.map rx)),(1000001,.box 22 [.own 10]),(1000002,.box 85 [.own 11])]
theorem W0:R1 Tryz.prog 249 Tryz.f249.ntmps (Tryz.f249.body.getD .skip):=⟨Tryz.f249,Tryz.func249,rfl,rfl,rfl,adi⟩
theorem tH {x:Rx}{s:List Int}{k:List Rx}(hs:s.length+x.syms.length≤1099511627776)(hk:k.length≤1099511627776) :
  lB Tryz.prog 249 [vvw (rx x),.pbox 1000001 0,.pbox 1000002 0] (Q9 s k) (vvw (.tup [])) (Q9 (oO s x) (fZ k x)):=by
 rw[fy x];refine pH W0 (aaz J) fun w0 M0 ae=>?_
 refine pO [2,3015] [1,2,3,5,12] [10,11,1000001,1000002] ?_ ?_<;>intro h1;refine wZ [3] ?_;refine en (o1:=[(10,_),(11,_),(1000001,_),(1000002,_)]) ⟨rfl,rfl,rfl,rfl,trivial⟩ ?_;rw[pS adh,GQ adh];refine wS [3007] [1,2,3,14] [10,11,1000001,1000002] ?_ ?_<;>intro h2;refine wZ [1005,3] ?_;refine en (o1:=[(10,_),(11,_),(1000001,_),(1000002,_)]) ⟨rfl,rfl,rfl,rfl,trivial⟩ ?_;rw[uD adh,GQ adh];unfold Q9;rw[aaK];try rfl
 refine wZ [2001,6002,6000,5000] ?_;refine BR adi (bM (n:=4) adi ?_);refine xf 4 ?_;refine eU (i:=5) (j:=7) adi J J J J (aM J J (ah J Tryz.underlying85 bY J J J (by first|(simp only[ll];omega)|omega))) (aP J J J CG J J J J J ae) ?_ ?_;refine eU (i:=6) (j:=7) adi J J J J (aj J J J bY J J (iI rx k _) J J (.inl J) J (aaz J) ae) (aP J J J CG J J J J J ae) ?_ ?_;refine aH (i:=7) adi J J (aP J J J CG J J J J J ae) ?_;refine bf adi ?_;refine Dn [1] ?_;refine en (o1:=[(10,_),(11,_),(1000001,_),(1000002,_)]) ⟨rfl,rfl,rfl,rfl,trivial⟩ ?_;rotate_left;refine aH (i:=6) adi J J (aj J J J bY J J (iI rx k _) J J (.inl J) J (aaz J) ae) ?_;refine bf adi ?_;refine Dn [1] ?_;refine en (o1:=[(10,_),(11,_),(1000001,_),(1000002,_)]) ⟨rfl,rfl,rfl,rfl,trivial⟩ ?_;rotate_left;refine xe 5 ?_;refine aH (i:=6) adi J J (aj J J J bY J J (iI rx k _) J J (.inl J) J (aaz J) ae) ?_;refine bf adi ?_;refine Dn [1] ?_;refine en (o1:=[(10,_),(11,_),(1000001,_),(1000002,_)]) ⟨rfl,rfl,rfl,rfl,trivial⟩ ?_;rotate_left
 all_goals
  rw[pS adh,MX adh];unfold Q9;rw[←xX (z:=.agg [int 0,.sc (.slice none 0 0),.sc (.slice none 0 0)]),fy x];rfl
theorem E6 {P:Program}{w0:Fr}{M0:Nat→Prop}{o:Oper}{ρ:Operand→Option SV}{ob:List (Nat×Ob)}{c:fX}(h:Pure P w0 M0 o ρ ob (.v c (.sl (Rx.gv l)))):Pure P w0 M0 o ρ ob (.v c (jM l)):=by rw[xR] at h;exact h
abbrev SY:=dT 4 Tryz.func254
theorem KU {x y:Rx}(hx:x.size≤1099511627776)(hy:y.size≤1099511627776):au Tryz.prog 254 [rx x,rx y] (.p (bool (Ip x y))):=by
 refine cF SY fun w0 M0 ae=>?_
 refine db [2,0,7] [5,6] [] ?_;refine oC J J J J (tF _ _ _ (aaD _) hy hx) ?_;refine wZ [8005] ?_;rfl
theorem n0:cq Tryz.prog 252:=⟨Tryz.f252,Tryz.func252,adi,adi⟩
theorem SZ:ug Tryz.prog 235 Tryz.f235.ntmps 2 87 3 (Tryz.f235.body.getD .skip):=⟨Tryz.f235,Tryz.func235,rfl,rfl,rfl,adi,je,bY⟩
theorem OD (hs:Rx.aE l≤549755813888):aV Tryz.prog 235 [jM l] (.p (rx (gZ l))):=by
 have hl:=du l;have hbd:=M9 l;have hM:=x9 (dg l) (ee l);have hMl:=du (j8 (dg l) (ee l));have Ms:=du (ee l);have Ra:∀z∈j8 (dg l) (ee l),z.size≤1099511627776:=fun z hz=>by have:=gB hz;omega
 have hDl:(ef l).length≤1099511627776:=by
   have h1:=wL (eq:=Ip) (l:=jX (j8 (dg l) (ee l)));rw[qN] at h1;show(sJ _ _).length≤_;omega
 have W4:=qM (dg l);refine bh SZ (aaz J) fun w0 M0 ae=>?_
 refine db [17,5] [0,2,3,4,5] [2,3,4] ?_;refine bN 3 0 11 87 85 ae J J J J ?_;refine bN 4 0 10 3 22 ae J J J J ?_;refine gV [2,4] [2,3,4,5,11,12,13] [2,3,4,10,11] ?_;refine lr (fun zl zo zm zs=>∃i:Nat,zm=l.length-i∧(i≤l.length)∧zs=eV 81 [(13,vvw (int i))] zl [(10,.arr 3 ((df (aX (l.take i))).map int)),(11,.arr 87 ((fe (aX (l.take i))).map rx))] zo) ?_ ?_;exact⟨_,0,rfl,aaG _,rfl⟩;rintro zm zs ⟨i,rfl,aY,rfl⟩;have hb1:=wJ (aX (l.take i));have hb2:=ky (l.take i);have hb3:=gN l i;have hb4:=du (fe (aX (l.take i)));have hb5:=fun(h:i<l.length)=>gB (aS h)
 have hb6:=eJ (l.getD i default);have hb7:=jm l i;have hb8:=fun(h:i<l.length)=>xS h
 have hb10:=ek (l.getD i default);have hb9:=size_eq (l.getD i default);refine wS [3006] [2,3,4,5,11,12,13,14] [2,3,4,10,11] ?_ ?_<;>intro h1;refine wS [7,3013] [2,3,4,5,7,11,12,13,19] [2,3,4,7,10,11] ?_ ?_<;>intro h2;refine wA [5] [2,3,4,5,11,12,13,20,21] [2,3,4,10,11] ?_;refine oS J (aR [(1000001,4),(1000002,3)] J J J J J J J (tH (x:=l.getD i default) (s:=df (aX (l.take i))) (k:=fe (aX (l.take i))) adh adh) ⟨.inl J,.inl J,.inl J,trivial⟩ ⟨rfl,rfl,rfl,rfl,trivial⟩ J J J J J ae) J ?_;refine wA [7,9002] [2,3,4,5,11,12,13] [2,3,4,10,11] ?_;refine⟨_,⟨i+1,rfl,adh,?_⟩,adh⟩;rw[nO adh,jx adh,qK,qL];rfl;refine wA [6] [2,3,4,5,11,12,13,23] [2,3,4,7,10,11] ?_;refine oP J (E6 (aa J KK J J J)) ?_;refine wA [0,4] [2,3,4,5,11,12,13,24,25,26] [2,3,4,10,11] ?_;refine lp (fun zm zs=>∃j:Nat,zm=(l.getD i default).kids.length-j∧(j≤(l.getD i default).kids.length)∧zs=⟨81,[(2,.pbox 2 0),(3,.pbox 3 0),(4,.pbox 4 0),(5,.fn 249 [.bx 4,.bx 3]),(11,vvw (jM l)),(12,vvw (int l.length)),(13,vvw (int i)),(24,vvw (jM (l.getD i default).kids)),(25,vvw (int (l.getD i default).kids.length)),(26,vvw (int j))],[(2,.box 87 [vvw (.sc (.int .i64 0)),vvv,vvv]),(3,.box 85 [.own 11]),(4,.box 22 [.own 10]),(10,.arr 3 ((df (aX (l.take i)++(l.getD i default).kids.take j)).map int)),(11,.arr 87 ((fe (aX (l.take i)++(l.getD i default).kids.take j)).map rx))]⟩) ?_ ?_;refine⟨_,0,rfl,aaG _,?_⟩;rw[adg,abe];rfl;rintro zm zs ⟨j,rfl,gi,rfl⟩;have hc0:=hb5 adh;have hc8:=hb8 adh;have hc1:=wJ (aX (l.take i)++(l.getD i default).kids.take j);rw[eo] at hc1;have hc2:=gN (l.getD i default).kids j;have hc3:=du (fe (aX (l.take i)++(l.getD i default).kids.take j));have hc4:=fun(h:j<(l.getD i default).kids.length)=>gB (aS h)
 have hc5:=eJ ((l.getD i default).kids.getD j default);refine wS [3006] [2,3,4,5,11,12,13,24,25,26,27] [2,3,4,10,11] ?_ ?_<;>intro h3;refine wA [7,8] [2,3,4,5,11,12,13,24,25,26,30,31] [2,3,4,10,11] ?_;refine oS J (aR [(1000001,4),(1000002,3)] J J J J J J J (tH (x:=(l.getD i default).kids.getD j default) (s:=df (aX (l.take i)++(l.getD i default).kids.take j)) (k:=fe (aX (l.take i)++(l.getD i default).kids.take j)) adh adh) ⟨.inl J,.inl J,.inl J,trivial⟩ ⟨rfl,rfl,rfl,rfl,trivial⟩ J J J J J ae) J ?_;refine wA [4,9002] [2,3,4,5,11,12,13,24,25,26] [2,3,4,10,11] ?_;refine⟨_,⟨j+1,rfl,adh,?_⟩,adh⟩;rw[AM adh,AN adh];rfl;refine wA [8,9002] [2,3,4,5,11,12,13] [2,3,4,10,11] ?_;refine⟨_,⟨i+1,rfl,adh,?_⟩,adh⟩;rw[nO adh,gS adh,show(l.getD i default).kids.take j=(l.getD i default).kids from aa2 adh];rfl;refine wA [6] [2,3,4] [2,3,4,10,11] ?_;refine ct (fun zs=>zs=⟨81,[(2,.pbox 2 0),(3,.pbox 3 0)],[(2,.box 87 [vvw (.sc (.int .i64 0)),vvv,vvv]),(3,.box 85 [.own 11]),(11,.arr 87 ((j8 (dg l) (ee l)).map rx))]⟩) ?_ ?_;refine wA [1] [2,3,4] [2,3,4,10,11] ?_;rw[show l.take i=l from aa2 adh];refine wS [2,3003] [2,3,4,37] [2,3,4,10,11] ?_ ?_<;>intro h4;refine wA [4] [2,3,4,38] [2,3,4,10,11] ?_;refine oS J (xJ OC J J J J J J w6 (by have h1:=wJ (aX l);have h2:=ky l;omega) ae) J ?_;refine wA [2] [2,3,4] [2,3,4,10,11] ?_;rw[vE];refine kp (n:=81) (o2:=[(2,.box 87 [vvw (.sc (.int .i64 0)),vvv,vvv]),(3,.box 85 [.own 11]),(11,.arr 87 ((ee l).map rx))]) 2 6 [(40,.own 11),(41,.own 10),(42,vvw (ints (sJ PM (jH (dg l))))),(43,vvw (rx (.mk 2 (sJ PM (jH (dg l))) []))),(44,vvw (int (ee l).length)),(45,vvw (.sl [.agg [int 0,.sc (.slice none 0 0),.sc (.slice none 0 0)]])),(2,.pbox 2 0),(3,.pbox 3 0),(4,.pbox 4 0)] mixed adi adi adi J adi (fun t d h=>h) J ?_ ?_ ?_ ?_ ?_
 · intro i hi
   rcases(by omega:i=0∨i=1∨i=2∨i=3∨i=4∨i=5) with rfl|rfl|rfl|rfl|rfl|rfl<;>exact⟨_,_,rfl,rfl⟩
 · intro i o t d hi hia ho hd hG hn
   rcases(by omega:i=0∨i=1∨i=3∨i=4∨i=5) with rfl|rfl|rfl|rfl|rfl
   · injection (show some _ = some o from ho) with ho; subst ho; injection (show some _ = some t from hd) with hd; subst hd; injection (show some _ = some d from hG) with hG; subst hG
     exact aa J KK J J J
   · injection (show some _ = some o from ho) with ho; subst ho; injection (show some _ = some t from hd) with hd; subst hd; injection (show some _ = some d from hG) with hG; subst hG
     exact aa J KH J J J
   · exact absurd hn adj
   · injection (show some _ = some o from ho) with ho; subst ho; injection (show some _ = some t from hd) with hd; subst hd; injection (show some _ = some d from hG) with hG; subst hG
     exact lT J Tryz.underlying85 J
   · injection (show some _ = some o from ho) with ho; subst ho; injection (show some _ = some t from hd) with hd; subst hd; injection (show some _ = some d from hG) with hG; subst hG
     exact eF J Tryz.underlying85 jz J J J J ae
 · intro i o t d hi hia ho hd hG hn
   rcases(by omega:i=0∨i=1∨i=3∨i=4∨i=5) with rfl|rfl|rfl|rfl|rfl
   · injection (show some _ = some o from ho) with ho; subst ho; injection (show some _ = some t from hd) with hd; subst hd; injection (show some _ = some d from hG) with hG; subst hG
     exact aa J KK J J J
   · exact absurd hn adj
   · injection (show some _ = some o from ho) with ho; subst ho; injection (show some _ = some t from hd) with hd; subst hd; injection (show some _ = some d from hG) with hG; subst hG
     exact ar (aK J yA my J J J) J
   · injection (show some _ = some o from ho) with ho; subst ho; injection (show some _ = some t from hd) with hd; subst hd; injection (show some _ = some d from hG) with hG; subst hG
     exact lT J Tryz.underlying85 J
   · injection (show some _ = some o from ho) with ho; subst ho; injection (show some _ = some t from hd) with hd; subst hd; injection (show some _ = some d from hG) with hG; subst hG
     exact eF J Tryz.underlying85 jz J J J J ae
 · intro o X ho eC dv cZ
   have Ux:41∈looks _ o→X.lookup 41=some (.own 10):=fun h=>(cZ 41 h).trans rfl
   injection (show some _=some o from ho) with ho';obtain⟨s',g1,g2⟩:=DT (o:=o) (f:=122) (ats:=#[22]) (n:=81) (X:=X) (o1:=[(2,.box 87 [vvw (.sc (.int .i64 0)),vvv,vvv]),(3,.box 85 [.own 11]),(4,.box 22 [.own 10]),(10,.arr 3 ((jH (dg l)).map int)),(11,.arr 87 ((ee l).map rx))]) (o2:=[(2,.box 87 [vvw (.sc (.int .i64 0)),vvv,vvv]),(3,.box 85 [.own 11]),(11,.arr 87 ((ee l).map rx))]) (t:=42) (u:=41) (id:=10) (by rw[←ho'];rfl) (by rw[←ho'];rfl) rfl rfl (Ux (by rw[←ho'];decide)) eC rfl (o6 (l:=jH (dg l)) adh) (fun t' d h hne=>DV (u:=41) (by rfl) (dv t' d h) hne) rfl (JW.out (o1:=[(2,.box 87 [vvw (.sc (.int .i64 0)),vvv,vvv]),(3,.box 85 [.own 11]),(4,.box 22 [.own 10]),(10,.arr 3 ((jH (dg l)).map int)),(11,.arr 87 ((ee l).map rx))]) (o2:=[(2,.box 87 [vvw (.sc (.int .i64 0)),vvv,vvv]),(3,.box 85 [.own 11]),(11,.arr 87 ((ee l).map rx))]) ⟨⟨_,rfl,rfl⟩,⟨_,rfl,rfl⟩,⟨_,rfl,rfl⟩,trivial⟩) ae;exact⟨42,_,s',by rw[←ho'];rfl,rfl,g1,g2⟩
 refine bM (n:=4) adi ?_;refine xf 6 ?_;refine eU (i:=7) (j:=9) adi J J J J (aM J J (ah J Tryz.underlying85 bY J J J (by first|(simp only[ll];omega)|omega))) (aP J J J CG J J J J J ae) ?_ ?_;refine eU (i:=8) (j:=9) adi J J J J (aj J J J bY J J (iI rx (ee l) _) J J (.inl J) J (aaz J) ae) (aP J J J CG J J J J J ae) ?_ ?_;refine aH (i:=9) adi J J (aP J J J CG J J J J J ae) ?_;refine bf adi ?_;refine hZ [10000] [2,3] [2,3,11] ?_;rotate_left;refine aH (i:=8) adi J J (aj J J J bY J J (iI rx (ee l) _) J J (.inl J) J (aaz J) ae) ?_;refine bf adi ?_;refine hZ [10000] [2,3] [2,3,11] ?_;rotate_left;refine xe 7 ?_;refine aH (i:=8) adi J J (aj J J J bY J J (iI rx (ee l) _) J J (.inl J) J (aaz J) ae) ?_;refine bf adi ?_;refine hZ [10000] [2,3] [2,3,11] ?_;rotate_left;refine wA [10002] [2,3] [2,3,11] ?_;rw[M6 (by show ¬0<(df (aX l)).length;omega)];rfl;rintro zs ⟨rfl⟩;refine wA [3] [2,3,48] [2,3,11] ?_;refine oS J (yn (cells:=Yk) (cf:=dt) (p:=fun z=>z.size≤1099511627776) OB J J J J J J J bY adj Ra (fun a b ha hb=>tF _ a b (aaD _) hb ha) n0 (fun a _=>x4 a) (fun a b c _ _ _=>kx a b c) (fun a b _ _=>Ej) adh ae) J ?_;refine wA [3] [2,3] [2,3,11] ?_;rw[vD];refine wA [2] [2,3,50] [2,3,11] ?_;refine oS J (aR [(0,11)] J J J J J J J (rJ (eq:=Ip) (l:=jX (j8 (dg l) (ee l))) (by rw[qN];omega) (fun x hx y hy=>KU (Ra _ (lW.1 hx)) (Ra _ (lW.1 hy)))) ⟨.inl J,.inl J,trivial⟩ ⟨rfl,trivial⟩ J J J J J ae) J ?_;refine ko 81 [(2,_),(3,_),(51,_)] [(2,_),(3,_)] ae J ⟨.inl J,.inl J,.inr ⟨_,_,rfl,rfl,rfl⟩,trivial⟩ ⟨rfl,rfl,trivial⟩ ?_;refine Yj [3] [2,3] [2,3] ?_;refine ct (fun zs=>zs=⟨81,[(2,.pbox 2 0),(3,.pbox 3 0)],[(2,.box 87 [vvw (.sc (.int .i64 0)),vvv,vvv]),(3,.box 85 [vvw (jM (j9 (ef l)))])]⟩) ?_ ?_;refine wS [3,4002] [2,3,55] [2,3] ?_ ?_<;>intro h5';refine wS [1,4005] [2,3,62] [2,3] ?_ ?_<;>intro h6';refine wZ [1,5000] ?_;refine oC J J J J (gP (p:=cT) (l:=(ef l).drop 1) (by simp;omega) (fun x hx=>Hm _ _ (aaD _) (Ra _ (tk (abp hx))))) ?_;refine wS [3003] [2,3,66] [2,3] ?_ ?_<;>intro h7;refine wA [3,10002] [2,3] [2,3] ?_;rotate_left;refine wA [10002] [2,3] [2,3] ?_;rotate_left;refine wA [10008] [2,3] [2,3] ?_;rotate_left;refine wA [10015] [2,3] [2,3] ?_;rotate_left;rintro zs ⟨rfl⟩;refine wS [4,3009] [2,3,70,71] [2,3] ?_ ?_<;>intro h8;refine wZ [10] ?_;refine ao J ?_;rotate_left;refine wS [3007] [2,3,74] [2,3] ?_ ?_<;>intro h9;refine wZ [4,7] ?_;refine ao J ?_;rotate_left;refine wZ [12] ?_;refine ao J ?_;rotate_left
 all_goals first
  | (
    have h4u:0<(dg l).length:=by show 0<(df (aX l)).length;omega
    rw[M5 h4u,←xX (z:=.agg [int 0,.sc (.slice none 0 0),.sc (.slice none 0 0)])];rfl;done)
  | (
    first
      | (rw[x7 (k:=ef l) (by show 1<(sJ Ip (jX (j8 (dg l) (ee l)))).length;omega) h6' h7];rfl)
      | (rw[mj (k:=ef l) (fun q=>absurd q.1 (by show ¬1<(sJ Ip (jX (j8 (dg l) (ee l)))).length;omega))];rfl)
      | (rw[mj (k:=ef l) (fun q=>h6' q.2.1)];rfl)
      | (rw[mj (k:=ef l) (fun q=>by rw[q.2.2] at h7;cases h7)];rfl);done)
  | (
    first
      | (rw[show gZ l=dO from GR (k:=j9 (ef l)) adh];rfl)
      | (rw[show gZ l=_ from Cj (k:=j9 (ef l)) adh];rfl)
      | (rw[show gZ l=_ from x6 (k:=j9 (ef l)) adh adh,mT];rfl);done)
theorem w8 {P:Program}{w0:Fr}{M0:Nat→Prop}{s:St}{y:Operand}(hy:Am.viewAt s.ev s.o y=some (.pl,.sl (Rx.gv l))):Src P w0 M0 s y 3 (l.map rx):=by rw[xR] at hy;exact dX hy (fun _=>rfl)
theorem Zn:ug Tryz.prog 69 Tryz.f69.ntmps 2 87 3 (Tryz.f69.body.getD .skip):=⟨Tryz.f69,Tryz.func69,rfl,rfl,rfl,adi,je,bY⟩
theorem lg (s:List Int):aV Tryz.prog 69 [ints s] (.p (rx (.mk 2 s []))):=by
 refine bh Zn (aaz J) fun w0 M0 ae=>?_
 refine AD [13] ?_;refine ao J ?_;rfl
theorem Zo:ug Tryz.prog 92 Tryz.f92.ntmps 4 87 3 (Tryz.f92.body.getD .skip):=⟨Tryz.f92,Tryz.func92,rfl,rfl,rfl,adi,je,bY⟩
theorem CK (k:Int)(l:List Rx):aV Tryz.prog 92 [int k,jM l] (.p (rx (.mk k [] l))):=by
 refine bh Zo (aaz J) fun w0 M0 ae=>?_
 refine AD [14] ?_;refine ao J ?_;rw[mT];rfl
theorem S0:ug Tryz.prog 234 Tryz.f234.ntmps 2 87 3 (Tryz.f234.body.getD .skip):=⟨Tryz.f234,Tryz.func234,rfl,rfl,rfl,adi,je,bY⟩
theorem tI (hs:Rx.aE l≤1099511627776):aV Tryz.prog 234 [jM l] (.p (rx (c4 l))):=by
 have hl:=du l;refine bh S0 (aaz J) fun w0 M0 ae=>?_
 refine db [1007,6,4] [2,3,6,7,8] [2,3] ?_;refine lr (fun zl zo zm zs=>∃i:Nat,zm=l.length-i∧(i≤l.length)∧(∀j,j<i→(l.getD j default).kind≠0)∧zs=eV 42 [(3,.own 3),(8,vvw (int i))] zl [(3,.arr 87 ((ez (l.take i)).map rx))] zo) ?_ ?_;exact⟨_,0,rfl,aaG _,fun j hj=>absurd hj adh,rfl⟩;rintro zm zs ⟨i,rfl,aY,ax,rfl⟩;have hroom:=fun h=>AH (l:=l) (i:=i) h
 refine wS [3006] [2,3,6,7,8,9] [2,3] ?_ ?_<;>intro h1;refine wS [7,3018] [2,3,5,6,7,8,13,18] [2,3,5] ?_ ?_<;>intro h2;refine wZ [14] ?_;refine ao J ?_;rotate_left;refine wS [3007] [2,3,5,6,7,8,13,21] [2,3,5] ?_ ?_<;>intro h3;refine wA [6,9002] [2,3,6,7,8] [2,3] ?_;rotate_left;refine wS [3007] [2,3,5,6,7,8,23] [2,3,5] ?_ ?_<;>intro h4;refine wA [1] [2,3,5,6,7,8] [2,3,5] ?_;have hr:=hroom adh;refine wA [4] [2,6,7,8,25,27] [2,3] ?_;refine oS J (step_append J J J J Tryz.underlying85 jz J J ae (w8 (l:=(l.getD i default).kids) J) (by first|(simp only[ll];omega)|omega) (by first|(simp only[ll];omega)|omega)) J ?_;refine wA [6,9002] [2,3,6,7,8] [2,3] ?_;rotate_left;refine wA [1] [2,3,5,6,7,8] [2,3,5] ?_;have hr:=hroom adh;refine wA [3,1000,6,9002] [2,3,6,7,8] [2,3] ?_;rotate_left;refine wS [10,3009] [2,3,31,32] [2,3] ?_ ?_<;>intro h5;refine wZ [10] ?_;refine ao J ?_;rotate_left;refine wS [3007] [2,3,35] [2,3] ?_ ?_<;>intro h6;refine wZ [4,0,6] ?_;refine ao J ?_;rotate_left;refine wA [5] [2,3] [2,3] ?_;refine aD 42 [(2,_),(3,_)] [(2,_)] ae J ⟨.inl J,.inr ⟨_,_,rfl,rfl,rfl⟩,trivial⟩ ⟨rfl,trivial⟩ ?_;refine oJ [7] ?_;refine ao J ?_;rotate_left
 all_goals first
  | (
    first|(rw[uz (i:=i) adh adh];rfl)|(rw[nM (fun j hj=>ax j adh)];rw[show ez l=ez (l.take i) by rw[aa2 adh]];first|(rw[GO adh];rfl)|(rw[GP adh];rfl)|(rw[sb adh adh,mT];rfl));done)
  | (
    exact⟨_,⟨i+1,rfl,adh,cc ax adh,by rw[uy adh];first|(rw[mi adh,abe];rfl)|(rw[iP adh,aaK];rfl)|(rw[ep adh adh,aaK];rfl)⟩,adh⟩;done)
end Go.Proofs.YtlapahnodhmcpaaGreat
