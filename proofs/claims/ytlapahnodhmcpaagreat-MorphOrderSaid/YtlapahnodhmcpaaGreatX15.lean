/-
  Part of the proof.
-/
import Derived.Test.YtlapahnodhmcpaaGreatX14
set_option linter.unusedVariables false
set_option linter.unusedSectionVars false
set_option linter.unusedSimpArgs false
set_option maxRecDepth 100000
set_option maxHeartbeats 40000000
namespace Go.Proofs.YtlapahnodhmcpaaGreat
open Go.Am Go.Wb Go.Wc Go.Wf Go.We
abbrev Z7:=dT 4 Tryz.func85
variable{l:List Int}{x:Int}
theorem HQ (hl:l.length≤1099511627776):au Tryz.prog 85 [ints l,int x] (.p (int (eK (fun y=>decide (x=y)) l))):=by
 refine cF Z7 fun w0 M0 ae=>?_
 refine db [9,4] [0,1,7,8] [] ?_;refine lr (fun zl zo zm zs=>∃k:Nat,zm=l.length-k∧(k≤l.length)∧(∀j,j<k→decide (x=l.getD j default)=false)∧zs=eV 19 [(8,vvw (int k))] zl [] zo) ?_ ?_;exact⟨_,0,rfl,aaG _,fun j hj=>absurd hj adh,rfl⟩;rintro zm zs ⟨k,rfl,aY,ax,rfl⟩;refine wS [3006] [0,1,7,8,9] [] ?_ ?_<;>intro h1;refine wS [16,3004] [0,1,5,7,8,16] [] ?_ ?_<;>intro h2;refine wZ [8013] ?_;rw[←nJ (p:=fun y=>decide (x=y)) (l:=l) (k:=k) adh ax (by simp_all)];refine wA [5,9002] [0,1,7,8] [] ?_;exact⟨_,⟨k+1,rfl,adh,cc ax (by simp_all),rfl⟩,adh⟩;refine wZ [8012] ?_;rw[←lU (p:=fun y=>decide (x=y)) (l:=l) (fun j hj=>ax j adh)]
abbrev Z8:=dT 4 Tryz.func54
theorem zX (hl:l.length≤1099511627776):au Tryz.prog 54 [ints l,int x] (.p (bool (yY l x))):=by
 refine cF Z8 fun w0 M0 ae=>?_
 refine db [9] [5,6] [] ?_;refine oC J J J J (HQ hl) ?_;refine wZ [8005] ?_;rw[wH,RC]
abbrev Z9:=dT 3 Tryz.func53
theorem HR (hl:l.length≤1099511627776):au Tryz.prog 53 ([int x]++[.pc [ints l] 0]) (.p (bool (!yY l x))):=by
 refine cF Z9 fun w0 M0 ae=>?_
 refine db [9] [4,5] [] ?_;refine oC J J J J (zX hl) ?_;refine wZ [8005] ?_;rfl
abbrev aaa:=dT 4 Tryz.func52
theorem FW {p:Int→Bool}{g:FuncId}{caps:List AV}(hl:l.length≤1099511627776)(hf:∀x∈l,au Tryz.prog g ([int x]++caps) (.p (bool (p x)))) :
  lB Tryz.prog 52 [.own 0,vvw (.clo g caps)] [(0,.arr 3 (l.map int))] (.own 0) [(0,.arr 3 ((l.filter fun x=>!p x).map int))]:=by
 have hib:=RH (p:=p) (l:=l);refine gL aaa (aaz J) fun w0 M0 ae=>?_
 refine db [9] [0,1,8,9] [0] ?_;refine oC J J J J (Bf hl hf) ?_;refine wS [3010] [0,1,5,12] [0] ?_ ?_<;>intro h1;refine wZ [9] ?_;refine eG (o1:=[(0,_)]) J ⟨rfl,trivial⟩ ?_;rw[Pc (Pb h1)];exact⟨rfl,rfl⟩;refine wA [7,4] [0,1,5,6] [0] ?_;obtain⟨q,hq,hql,hq1,hq2⟩:=RG (p:=p) (l:=l) adh;refine lp (fun zm zs=>∃(ys:List Int)(k j:Nat),zm=l.length-j∧(j≤l.length)∧(ys.length=l.length)∧((l.take j).filter (fun x=>!p x)=ys.take k)∧(k+1≤j)∧(∀i,j≤i→ys.getD i default=l.getD i default)∧zs=⟨42,[(0,.own 0),(1,vvw (.clo g caps)),(5,vvw (int k)),(6,vvw (int j))],[(0,.arr 3 (ys.map int))]⟩) ?_ ?_;rw[hq];exact⟨_,l,q,q+1,rfl,adh,rfl,(Jt hql hq2).trans (Pa hq1 adh),aaD _,fun i _=>rfl,rfl⟩;rintro zm zs ⟨ys,k,j,rfl,aY,ax,c7,I3,BC,rfl⟩;refine wS [5,3003] [0,1,5,6,19] [0] ?_ ?_<;>intro h2;refine wA [9,0,7] [0,1,5,6,7,26,27] [0] ?_;refine oC J J J J (hf _ (by rw[acb,BC j (aaD _)];exact aO adh)) ?_;refine wS [3003] [0,1,5,6,7,29] [0] ?_ ?_<;>intro h3;refine wZ [6,5000] ?_;refine oS J (aj J J J w6 J J (e9 (by first|(simp only[ll];omega)|omega)) J J (.inl J) J (aaz J) ae) J ?_;refine wA [4,6,9002] [0,1,5,6] [0] ?_;rw[BC j (aaD _)] at h3;refine⟨_,⟨ys.set k (l.getD j default),k+1,j+1,rfl,adh,by simpa using ax,RE adh adh h3 c7,adh,fun i hi=>?_,?_⟩,adh⟩
 ·rw[lK adh];exact BC i adh
 ·rw[adf,←BC j (aaD _)];rfl
 refine wA [6,9002] [0,1,5,6] [0] ?_;rw[BC j (aaD _)] at h3;exact⟨_,⟨ys,k,j+1,rfl,adh,ax,(Jt adh h3).trans c7,adh,fun i hi=>BC i adh,rfl⟩,adh⟩;refine wA [10] [0,5,36,37] [0] ?_;refine oP J (ec J Tryz.underlying22 w6 J J J (by first|(simp only[ll];omega)|omega)) ?_;refine oS J (jU (zv:=int 0) J J J Tryz.underlying22 w6 J J Yn adj J J ae) J ?_;refine wA [6] [39,40] [0] ?_;refine oP J (ie J Tryz.underlying22 w6 J J J (by first|(simp only[ll];omega)|omega)) ?_;refine pF 41 J J ae J ?_;refine GM [4] ?_;refine eG (o1:=[(0,_)]) J ⟨rfl,trivial⟩ ?_;refine⟨rfl,?_⟩;rw[←RF (f:=int) (k:=k) (j:=j) adh adh c7];rfl
abbrev aab:=dT 4 Tryz.func25
theorem BD {l:List da}{F:List (List aI)}{w:List Int}(hF:rP F)(hw:w.length≤1048576):aV Tryz.prog 25 [sC l F,ints w] (.p (ints (cJ (ke F w) (ke F w).length))):=by
 have hal:=FR hF w;have Yq:=hF.n;have hpl:=FU F w;refine cN aab fun w0 M0 ae=>?_
 refine db [12] [0,1,5] [] ?_;refine B4 5 3 ae J J ?_;refine gV [2000,6001,3] [0,5,12,13] [5] ?_;refine oE J J J J J J (u5 (w:=w) adh) ?_;refine oD J J J (ar (xp J Tryz.underlying100 Tryz.underlying9 On J J J trivial (tW F (aQ F F.length 0)) J) (FT F w)) ?_;refine wA [6000,4] [0,5,15,16,17] [5] ?_;refine lp (fun zm zs=>∃k:Nat,zm=(cw F w).length-k∧(k≤(cw F w).length)∧zs=⟨44,[(0,vvw (sC l F)),(5,.own 5),(15,vvw (.sl ((cw F w).map jD))),(16,vvw (int (cw F w).length)),(17,vvw (int k))],[(5,.arr 3 ((cJ (ke F w) k).map int))]⟩) ?_ ?_;exact⟨_,0,rfl,aaG _,rfl⟩;rintro zm zs ⟨k,rfl,aY,rfl⟩;refine wS [3006] [0,5,15,16,17,18] [5] ?_ ?_<;>intro h1;have hpm:=FQ (w:=w) (aO (show k<(cw F w).length by omega));refine wA [8,7] [0,5,6,7,15,16,17] [5,7] ?_;refine dC [13,14] [[(5,.arr 3 ((cJ (ke F w) k).map int)),(7,.box 107 [vvw (int ((cw F w).getD k default).1),vvw (int ((cw F w).getD k default).2)])],[(5,.arr 3 ((cJ (ke F w) k).map int)),(7,.box 107 [vvw (int ((cw F w).getD k default).1),vvw (int ((cw F w).getD k default).2)]),(8,.box 22 [vvv])],[(5,.arr 3 ((cJ (ke F w) k).map int)),(7,.box 107 [vvw (int ((cw F w).getD k default).1),vvw (int ((cw F w).getD k default).2)]),(8,.box 22 [vvw (ints (a8 F ((cw F w).getD k default)).cuts)])]] 15 [(4,[0,1]),(5,[0,1]),(8,[0,1]),(9,[0,1])] [(22,vvw (sC l F)),(23,vvw (sC l F)),(24,vvw (.pc (Yp l F) 1)),(25,vvw (.sl (F.map b7))),(26,.pbox 7 0),(27,vvw (int ((cw F w).getD k default).1)),(28,vvw (.pc [b7 (F.getD ((cw F w).getD k default).1 default)] 0)),(29,vvw (b7 (F.getD ((cw F w).getD k default).1 default))),(30,.pbox 7 1),(31,vvw (int ((cw F w).getD k default).2)),(32,vvw (.pc (E4 (a8 F ((cw F w).getD k default))) 0)),(33,vvw (.pc (E4 (a8 F ((cw F w).getD k default))) 2)),(34,vvw (ints (a8 F ((cw F w).getD k default)).cuts)),(8,.pbox 8 0),(0,vvw (sC l F)),(5,.own 5),(6,vvw (int k)),(7,.pbox 7 0),(15,vvw (.sl ((cw F w).map jD))),(16,vvw (int (cw F w).length)),(17,vvw (int k))] (ai bV (ai bV (ai bV (ai bV (ai (ai kW (ai kW (trivial))) (ai (ai (aa J SD J J J) (ai (aa J SD J J J) (trivial))) (ai (fun _=>(j5 (f:=b7) (l:=F) (i:=((cw F w).getD k default).1) (z:=(F.getD ((cw F w).getD k default).1 default)) J J Tryz.underlying39 V9 J J adh (fun _=>rfl))) (ai bV (ai (ai kW (ai kW (trivial))) (ai (ai (aa J SD J J J) (ai (aa J SD J J J) (trivial))) (ai (fun _=>(j5 (f:=gF) (l:=(F.getD ((cw F w).getD k default).1 default)) (i:=((cw F w).getD k default).2) (z:=a8 F ((cw F w).getD k default)) J J Tryz.underlying46 He J J adh (fun _=>rfl))) (ai bV (ai bV trivial))))))))))))) (ai (fun X eC dv cZ=>ij (t:=8) J J J J eC V1 J J (fun t' z h hne=>fK (by rfl) (dv t' z h) hne) J ae) (ai (fun X eC dv cZ=>cz J (cy (u:=8) (v:=34) (id:=8) J J eC CE ((cZ 8 adj).trans J) J ((cZ 34 adj).trans J) J adj J J (fun t' z h=>cS (by rfl) (dv t' z h)) J ae)) (trivial))) ?_;refine bM (n:=0) adi ?_;refine bf adi ?_;refine hZ [3] [0,5,6,8,15,16,17] [5,8] ?_;refine aD 44 [(0,_),(5,_),(6,_),(8,_),(15,_),(16,_),(17,_)] [(5,_)] ae J ⟨.inl J,.inl J,.inl J,.inr ⟨_,_,rfl,rfl,rfl⟩,.inl J,.inl J,.inl J,trivial⟩ ⟨rfl,trivial⟩ ?_;refine Ve [3005] [0,5,8,15,16,17,36] [5] ?_ ?_<;>intro h2;refine wA [4] [0,15,16,17,37] [] ?_;refine oS J (nr J J J J J J (ft (l:=(a8 F ((cw F w).getD k default)).cuts) (by have:=(fU hF ((cw F w).getD k default)).cuts;omega)) ae) J ?_;refine wA [7] [0,5,15,16,17] [38] ?_;refine aw.imp (td 5 5 ae J J J J) ?_;refine gV [1,9002] [0,5,15,16,17] [5] ?_;have hk0:k=0:=adh;have e:cJ (ke F w) (k+1)=(a8 F ((cw F w).getD k default)).cuts:=by rw[hk0];exact(Z6 adh).trans (by rw[ve adh])
 exact⟨_,⟨k+1,rfl,adh,by rw[e];rfl⟩,adh⟩;refine wZ [5,5000] ?_;refine oS J (aR [(0,5)] J J J J J J J (FW (l:=cJ (ke F w) k) (p:=fun c=>!yY (a8 F ((cw F w).getD k default)).cuts c) (by have:=UT (ke F w) k;rw[ve adh] at this;have:=(fU hF ((cw F w).getD 0 default)).cuts;omega) (fun x _=>HR (by have:=(fU hF ((cw F w).getD k default)).cuts;omega))) ⟨.inl J,.inl J,trivial⟩ ⟨rfl,trivial⟩ J J J J J ae) J ?_;refine wA [4] [0,5,15,16,17] [5] ?_;refine wA [1,9002] [0,5,15,16,17] [5] ?_;have e:cJ (ke F w) (k+1)=(cJ (ke F w) k).filter fun c=>!!yY (a8 F ((cw F w).getD k default)).cuts c:=by rw[RD adh adh,ve adh];simp only[Bool.not_not]
 exact⟨_,⟨k+1,rfl,adh,by rw[e];rfl⟩,adh⟩;refine wA [7] [5] [5] ?_;refine aD 44 [(5,_)] [] ae J ⟨.inr ⟨_,_,rfl,rfl,rfl⟩,trivial⟩ trivial ?_;refine oJ [8006] ?_;rw[show k=(ke F w).length by omega]
end Go.Proofs.YtlapahnodhmcpaaGreat
namespace Go.Wf
open Go.Am Go.Wb Go.Wc
def eN (F:List (List aI))(E:List (Nat×Nat)):List (List Int):=E.map fun p=>(a8 F p).af
def vK (l:List (List Int)):List (List Int):=l.mergeSort fun x y=>!decide (bC y x<0)
theorem vf {l:List (List Int)}{x:List Int}:x∈vK l↔x∈l:=(List.mergeSort_perm l _).mem_iff
theorem Lg (l:List (List Int)):(vK l).length=l.length:=List.length_mergeSort l
def RI (F:List (List aI)):List (List Int):=sJ (fun x y=>decide (x=y)) (vK (eN F (aQ F F.length 0)))
theorem FX {F:List (List aI)}(hF:rP F)(E:List (Nat×Nat)):∀x∈eN F E,x.length≤1048576:=fun x hx=>by obtain⟨p,_,rfl⟩:=aa7.1 hx;exact(fU hF p).af
theorem pg (F:List (List aI))(E:List (Nat×Nat)):(eN F E).length=E.length:=aaA _
theorem vY (x:List Int):¬bC x x<0:=by have:=kv x x;omega
theorem mE {x y:List Int}(h:¬bC x y<0)(h':¬bC y x<0):x=y:=mV x y (by have:=kv x y;omega)
end Go.Wf
namespace Go.Proofs.YtlapahnodhmcpaaGreat
open Go.Am Go.Wb Go.Wc Go.Wf Go.We Go.RowKit Go.MapKept Go.Shelf
theorem UW:N5 Tryz.prog 56 :=
 ⟨⟨Tryz.f56, Tryz.func56, adi, adi⟩,
  fun p cap fv w=>AnyF.slices_SortFunc_none { Tryz.vK with } p cap fv w,
  fun enc h1 cf hO g cb blk off cap d w eg hcmp hH hblk hsz=>Any.slices_SortFunc Tryz.vK enc h1 cf hO g cb blk off cap d w eg hcmp hH hblk hsz⟩
abbrev aac:=dT 4 Tryz.func58
theorem zY {l:List (List Int)}{eq:List Int→List Int→Bool}{g:FuncId}(hl:l.length≤1099511627776)(hf:∀x∈l,∀y∈l,au Tryz.prog g [ints x,ints y] (.p (bool (eq x y)))) :
  lB Tryz.prog 58 [.own 0,vvw (.clo g [])] [(0,.arr 22 (l.map ints))] (.own 0) [(0,.arr 22 ((sJ eq l).map ints))]:=by
 refine gL aac (aaz J) fun w0 M0 ae=>?_
 refine pO [9,3003] [0,1,10] [0] ?_ ?_<;>intro h1;refine wZ [9] ?_;refine eG (o1:=[(0,_)]) J ⟨rfl,trivial⟩ ?_;rw[uB adh];exact⟨rfl,rfl⟩;refine wA [10] [0,1,5] [0] ?_;refine lp (fun zm zs=>∃q:Nat,zm=l.length-q∧(1≤q)∧(q≤l.length)∧(eA (eq) l q=l.take q)∧zs=⟨66,[(0,.own 0),(1,vvw (.clo g [])),(5,vvw (int q))],[(0,.arr 22 (l.map ints))]⟩) ?_ ?_;exact⟨_,1,rfl,aaD _,adh,by rw[tg,bF adh];rfl,rfl⟩;rintro zm zs ⟨q,rfl,aY,ax,c7,rfl⟩;have e0:((q:Int)-1).toNat=q-1:=adh;refine wS [5,3003] [0,1,5,15] [0] ?_ ?_<;>intro h2;refine wZ [2006,6003,6000,6002,6000,6000,5000] ?_;refine oE J J J J J J (hf _ (aO adh) _ (aO adh)) ?_;refine wS [3002] [0,1,5,28] [0] ?_ ?_<;>intro h3;refine wA [5] [0,1,5,29,30] [0] ?_;refine oP J (ec J Tryz.underlying52 CE J J J (by first|(simp only[ll];omega)|omega)) ?_;refine wA [10] [0,1,5,6,7] [0] ?_;refine lp (fun zm zs=>∃(ys:List (List Int))(k j:Nat),zm=l.length-q-j∧(1≤j)∧(q+j≤l.length)∧(ys.length=l.length)∧(eA (eq) l (q+j)=ys.take k)∧(k+1≤q+j)∧(∀i,q+j≤i+1→ys.getD i default=l.getD i default)∧(∀x∈ys,x∈l)∧zs=⟨66,[(0,.own 0),(1,vvw (.clo g [])),(5,vvw (int k)),(6,.vsl 0 q ((l.map ints).length-q)),(7,vvw (int j))],[(0,.arr 22 (ys.map ints))]⟩) ?_ ?_;rw[e0] at h3;exact⟨_,l,q,1,rfl,aaD _,adh,rfl,(nN adh (h3)).trans c7,aaD _,fun i _=>rfl,fun x hx=>hx,rfl⟩;rintro zm zs ⟨ys,k,j,rfl,gi,gj,nc,qj,SX,iA,tG,rfl⟩;refine wS [5,3003] [0,1,5,6,7,35] [0] ?_ ?_<;>intro h4;refine wZ [2006,6003,6000,6002,6000,6000,5000] ?_;refine oE J J J J J J (hf _ (tG _ (aO adh)) _ (tG _ (aO adh))) ?_;refine wS [3003] [0,1,5,6,7,49] [0] ?_ ?_<;>intro h5;refine wZ [7,0,0,5000] ?_;refine oS J (aj J J J CE J J (e9 (by first|(simp only[ll];omega)|omega)) J J (.inl J) J (aaz J) ae) J ?_;refine wA [4,6,9002] [0,1,5,6,7] [0] ?_;have e1:((j:Int)-1).toNat=j-1:=adh;rw[e1,iA (q+j) adh,iA (q+(j-1)) adh] at h5;refine⟨_,⟨ys.set k (l.getD (q+j) default),k+1,j+1,rfl,adh,adh,by simpa using nc,Cg adh qj ?_,adh,fun i hi=>?_,fun x hx=>?_,?_⟩,adh⟩
 ·rw[show q+j-1=q+(j-1) by omega];exact h5
 ·rw[lK adh];exact iA i adh
 ·rcases acK hx with hx|rfl
  ·exact tG x hx
  ·exact aO adh
 ·rw[adf,←iA (q+j) adh];rfl
 refine wA [6,9002] [0,1,5,6,7] [0] ?_;have e1:((j:Int)-1).toNat=j-1:=adh;rw[e1,iA (q+j) adh,iA (q+(j-1)) adh] at h5;refine⟨_,⟨ys,k,j+1,rfl,adh,adh,nc,xW adh qj ?_,adh,fun i hi=>iA i adh,tG,rfl⟩,adh⟩;rw[show q+j-1=q+(j-1) by omega];exact h5;refine wA [10] [0,5,59,60] [0] ?_;refine oP J (ec J Tryz.underlying52 CE J J J (by first|(simp only[ll];omega)|omega)) ?_;refine oS J (jU (zv:=.sc (.slice none 0 0)) J J J Tryz.underlying52 CE J J V1 adj J J ae) J ?_;refine wA [6] [62,63] [0] ?_;refine oP J (ie J Tryz.underlying52 CE J J J (by first|(simp only[ll];omega)|omega)) ?_;refine pF 64 J J ae J ?_;refine GM [9] ?_;refine eG (o1:=[(0,_)]) J ⟨rfl,trivial⟩ ?_;refine⟨rfl,?_⟩;rw[←Ch (f:=ints) (k:=k) (n:=q+j) adh adh qj];rfl;refine wA [6,9002] [0,1,5] [0] ?_;rw[e0] at h3;exact⟨_,⟨q+1,rfl,adh,adh,uC adh c7 (h3),rfl⟩,adh⟩;refine wZ [13] ?_;refine eG (o1:=[(0,_)]) J ⟨rfl,trivial⟩ ?_;rw[Ci (n:=q) adh c7];exact⟨rfl,rfl⟩
noncomputable abbrev HS (F:List (List aI))(E:List (Nat×Nat)):List (Nat×Ob):=[(15,.arr 22 ((eN F E).map ints)),(1000000,.box 52 [.own 15])]
theorem Lh {l:List da}{F:List (List aI)}{z:Nat}{rec:Loop}(hF:rP F)
  (hY:∀i k,i<F.length→k<(F.getD i default).length→Mq Tryz.prog z rec [3] [vvw (jD (i,k)),vvw (gF (a8 F (i,k)))] [.pbox 1000000 0] (HS F (aQ F i k)) (HS F (aQ F i (k+1)))) :
  Au Tryz.prog 82 z rec [.hid (yR z rec [3]) [.bx 1000000],vvw (.pc [sC l F] 0)] (HS F (aQ F 0 0)) (HS F (aQ F F.length 0)):=by
 refine me X3 (aaz J) fun w0 M0 ae hmd Ms hwl=>?_
 refine db [3,2,4] [0,10,11,12] [15,1000000] ?_;refine lp (fun zm zs=>∃i:Nat,zm=F.length-i∧(i≤F.length)∧zs=⟨33,[(0,.hid (yR z rec [3]) [.bx 1000000]),(10,vvw (.sl (F.map b7))),(11,vvw (int F.length)),(12,vvw (int i))],[(15,.arr 22 ((eN F (aQ F i 0)).map ints)),(1000000,.box 52 [.own 15])]⟩) ?_ ?_;exact⟨_,0,rfl,aaG _,rfl⟩;rintro zm zs ⟨i,rfl,aY,rfl⟩;have Yq:=hF.n;refine wS [3006] [0,10,11,12,13] [15,1000000] ?_ ?_<;>intro h1;refine wA [8,8,4] [0,3,10,11,12,17,18,19] [15,1000000] ?_;refine lr (fun zl zo zm zs=>∃k:Nat,zm=(F.getD i default).length-k∧(k≤(F.getD i default).length)∧zs=eV 33 [(19,vvw (int k))] zl [(15,.arr 22 ((eN F (aQ F i k)).map ints)),(1000000,.box 52 [.own 15])] zo) ?_ ?_;exact⟨_,0,rfl,aaG _,rfl⟩;rintro zm zs ⟨k,rfl,gi,rfl⟩;have hrow:=hF.row (F.getD i default) (aO adh);refine wS [3006] [0,3,10,11,12,17,18,19,20] [15,1000000] ?_ ?_<;>intro h2;refine wA [8,7] [0,3,5,6,10,11,12,17,18,19] [6,15,1000000] ?_;refine yG 5 hmd J ?_;refine wZ [6] ?_;refine⟨_,r8 [] J J J J J J J (hY i k adh adh) Ms hwl ⟨.inl J,.inl J,trivial⟩ ⟨.inl J,trivial⟩ ⟨rfl,rfl,trivial⟩ J J J J ae,?_⟩;refine wA [8,9002] [0,3,10,11,12,17,18,19] [15,1000000] ?_;exact⟨_,⟨k+1,rfl,adh,rfl⟩,adh⟩;refine wA [8,9002] [0,10,11,12] [15,1000000] ?_;obtain rfl:k=(F.getD i default).length:=adh;exact⟨_,⟨i+1,rfl,adh,by rw[←tV J];rfl⟩,adh⟩;refine wZ [5] ?_;refine en (o1:=[(15,_),(1000000,_)]) ⟨rfl,rfl,trivial⟩ ?_
 first|(obtain rfl:i=F.length:=by omega);rfl
abbrev aad:=dT 2 Tryz.func27
theorem vZ {l:List da}{F:List (List aI)}(hF:rP F):aV Tryz.prog 27 [sC l F] (.p (nC (RI F))):=by
 have hln:=pg F (aQ F F.length 0);have hls:=nn hF (aaD F.length) (aaG _);have hlm:=FX hF (aQ F F.length 0);refine xP aad (aaz J) fun w0 M0 ae hmd=>?_
 refine db [12] [0,3] [3] ?_;refine bN 3 0 15 22 52 ae J J J J ?_;refine gV [2] [3,6] [3,15] ?_;refine oN J J J J J (X2) ?_;refine wA [3] [3,7] [3,15] ?_;refine YD [(15,15),(1000000,3)] (HS F (aQ F 0 0)) (HS F (aQ F F.length 0)) [3] [.bx 1000000] hmd ae (fun zl zr q1 q2 q3 q4 q5 q6=>Lh (l:=l) (F:=F) hF (fun i k hi hk=>B6 (n:=20) (p:=8) (q:=9) (ts:=[3]) q1 q2 q3 q4 q5 q6 J (fun w0 M0 ae hmd0=>?_))) J J J ⟨.inl J,trivial⟩ ⟨.inl J,trivial⟩ ⟨rfl,rfl,trivial⟩ J J J J J ?_;refine AD [4] ?_;intro w0 M0 ae hmd0;refine db [1] [3,5] [5,15,1000000] ?_;refine aw.imp (jK 1000000 0 40 ae J J J J J J J J J) ?_;refine gV [0] [3,5] [5,40,1000000] ?_;refine dC [5] [[(5,.box 64 [vvw (ak (a8 F (i,k)).cell),vvw (ints (a8 F (i,k)).af),vvw (ints (a8 F (i,k)).cuts),vvw (strs (a8 F (i,k)).rules)]),(40,.arr 22 ((eN F (aQ F i k)).map ints)),(1000000,.box 52 [.own 40])],[(5,.box 64 [vvw (ak (a8 F (i,k)).cell),vvw (ints (a8 F (i,k)).af),vvw (ints (a8 F (i,k)).cuts),vvw (strs (a8 F (i,k)).rules)]),(15,.arr 22 ((eN F (aQ F i k)).map ints++[ints (a8 F (i,k)).af])),(1000000,.box 52 [.dead])]] 6 [(0,[0]),(1,[0]),(2,[0])] [(10,.own 40),(11,.pbox 5 1),(12,vvw (ints (a8 F (i,k)).af)),(13,vvw (ints (a8 F (i,k)).af)),(14,vvw (.sl [ints (a8 F (i,k)).af])),(15,.own 15),(3,.pbox 1000000 0),(5,.pbox 5 0)] (ai (ai (aa J Zf J J J) (trivial)) (ai (ai kW (trivial)) (ai (ai (aa J KH J J J) (trivial)) (ai (fun _=>(bE J J J ((au.weaken (ft (l:=(a8 F (i,k)).af) (by have:=(fU hF (i,k)).af;omega)))) ae)) (ai bV trivial))))) (ai (fun X eC dv cZ=>ck (T:=52) (t:=15) (u:=10) (id:=40) (y:=.tmp 14) J J J eC Tryz.underlying52 uV ((cZ 10 adj).trans J) J (cA (gp ((cZ 14 adj).trans J)) (bO (by rfl))) (by rw[aaA,pg];have hrw:=hF.row (F.getD i default) (aO hi);have:=nn hF (i:=i) (k:=k) adh adh;simp only[aaE,aaL];omega) (by rw[aaA,pg];have hrw:=hF.row (F.getD i default) (aO hi);have:=nn hF (i:=i) (k:=k) adh adh;simp only[aaE,aaL];omega) J dv J J J ae) (trivial)) ?_;refine bM (n:=1) adi ?_;refine aH (i:=6) adi J J (aP J J J Ze J J J J J ae) ?_;refine bf adi ?_;refine Dn [1] ?_;refine cV (o1:=[(15,_),(1000000,_)]) ⟨rfl,rfl,trivial⟩ ?_
 focus (unfold HS eN;rw[oe,aaK,aaK];first|done|rfl)
 refine wA [5] [3,16] [3,15] ?_;refine oS J (Ha (f0:=ints) (cf:=bC) (p:=fun x=>x.length≤1048576) (l:=(eN F (aQ F F.length 0))) UW J J J J J J J CE (fun _=>rfl) hlm (fun a b ha hb=>nz adh adh) ⟨Tryz.f57,Tryz.func57,adi,adi⟩ (fun a _=>vY a) (fun a b c _ _ _=>jW a b c) (fun a b _ _=>mE) adh ae) J ?_;refine wA [5] [18] [15] ?_;refine oS J (aR [(0,15)] J J J J J J J (zY (eq:=fun x y=>decide (x=y)) (l:=vK (eN F (aQ F F.length 0))) (by rw[Lg];omega) (fun x hx y hy=>qk (by have:=hlm x (vf.1 hx);omega) (by have:=hlm y (vf.1 hy);omega))) ⟨.inl J,.inl J,trivial⟩ ⟨rfl,trivial⟩ J J J J J ae) J ?_;refine ko 20 [(19,_)] [] ae J ⟨.inr ⟨_,_,rfl,rfl,rfl⟩,trivial⟩ trivial ?_;refine GM [8004] ?_;rfl
end Go.Proofs.YtlapahnodhmcpaaGreat
namespace Go.Wf
open Go.Am Go.Wb Go.Wc
theorem ph {α:Type}{r:α→α→Prop}(hr:∀x y,r x y→¬r y x):∀{a b:List α},a.Pairwise r→b.Pairwise r→(∀x,x∈a↔x∈b)→a=b
 | [],[],_,_,_=>rfl
 | [],y :: b,_,_,h=>absurd ((h y).2 aaJ) (by simp)
 | x :: a,[],_,_,h=>absurd ((h x).1 aaJ) (by simp)
 | x :: a, y :: b, ha, hb, h => by
   rw[abt] at ha hb;have hxy:x=y:=by
     rcases aa3.1 ((h x).1 aaJ) with h1|h1
     · exact h1
     · rcases aa3.1 ((h y).2 aaJ) with h2 | h2
       · exact h2.symm
       · exact absurd (hb.1 x h1) (hr _ _ (ha.1 y h2))
   subst hxy;have:a=b:=ph hr ha.2 hb.2 fun z=>⟨fun hz=>by
     rcases aa3.1 ((h z).1 (aaW _ hz)) with h1|h1
     · subst h1;exact absurd (ha.1 z hz) (hr _ _ (ha.1 z hz))
     · exact h1,fun hz=>by
     rcases aa3.1 ((h z).2 (aaW _ hz)) with h1|h1
     · subst h1;exact absurd (hb.1 z hz) (hr _ _ (hb.1 z hz))
     · exact h1⟩
   rw[this]
theorem vh:∀ a b:List Int,mL a b=decide (bC a b<0)
 | [],[]=>rfl
 | [],_ :: _=>rfl
 | _ :: _,[]=>rfl
 | x :: a, y :: b => by
   have ih:=vh a b;by_cases h:x=y
   · subst h
     have e:bS x x=0:=by unfold bS;rw[if_neg adh,if_neg adh]
     rw[mL,if_pos rfl,ih,bC,e];rfl
   · rw [mL, if_neg h, bC]
     by_cases h2:x<y
     · rw[show bS x y=-1 from if_pos h2,decide_eq_true h2];rfl
     · rw[show bS x y=1 from(if_neg h2).trans (if_pos adh),decide_eq_false h2];rfl
def rL (a b:List Int):Prop:=bC a b<0
theorem FY (a b:List Int)(h:rL a b):¬rL b a:=by have:=kv a b;unfold rL at *;omega
theorem Pd {l:List (List Int)}{x z:List Int}:z∈lA l x↔z∈l∨z=x:=by
 constructor
 · exact xc
 · induction l with
   | nil =>
     rintro(h|rfl)
     · cases h
     · exact aaJ
   | cons y l ih =>
     intro h;unfold lA;split
     · rcases h with h | h
       · rcases aa3.1 h with h | h
         · rw[h];exact aaJ
         · exact aaW _ (ih (.inl h))
       · exact aaW _ (ih (.inr h))
     · split
       · next he =>
         rcases h with h|h
         · exact h
         · rw[h,he];exact aaJ
       · rcases h with h | h
         · exact aaW _ h
         · rw[h];exact aaJ
theorem Pe:∀ {l:List (List Int)}{x:List Int},l.Pairwise rL→(lA l x).Pairwise rL
 | [],x,_=>aci _ _
 | y :: l, x, h => by
   have h':=abt.1 h;unfold lA;split
   · next hb =>
     rw[vh,decide_eq_true_eq] at hb;refine abt.2 ⟨fun z hz=>?_,Pe h'.2⟩;rcases xc hz with h1|h1
     · exact h'.1 z h1
     · rw[h1];exact hb
   · next hb =>
     split
     · exact h
     · next he =>
       rw[vh] at hb;have hb:¬bC y x<0:=by simpa using hb
       have hx:rL x y:=by
         by_cases h2:bC x y<0
         · exact h2
         · exact absurd (mE hb h2) he
       refine abt.2 ⟨fun z hz=>?_,h⟩;rcases aa3.1 hz with h1|h1
       · rw[h1];exact hx
       · exact jW _ _ _ hx (h'.1 z h1)
theorem zc (F:List (List aI))(i k:Nat):(kj F i k).Pairwise rL:=by unfold kj;refine iu (C:=fun l=>(l.foldl (fun o p=>lA o (a8 F p).af) []).Pairwise rL) List.Pairwise.nil (fun l p ih=>?_) _;rw[ab2];exact Pe ih
variable{F:List (List aI)}
theorem BE {i k:Nat}{z:List Int}:z∈kj F i k↔z∈eN F (aQ F i k):=by unfold kj eN;refine iu (C:=fun l=>z∈l.foldl (fun o p=>lA o (a8 F p).af) []↔z∈l.map fun p=>(a8 F p).af) Iff.rfl (fun l p ih=>?_) _;rw[ab2,aaK,abl,←ih,ac7,aaY];exact Pd
def HT (x y:List Int):Bool:=!decide (bC y x<0)
theorem Li (a b c:List Int)(h:HT a b=true)(h':HT b c=true):HT a c=true:=by
 unfold HT at *;simp only[abw,decide_eq_false_iff_not] at *;intro h2;by_cases h3:bC a b<0
 ·exact h' (jW _ _ _ h2 h3)
 ·rw[mE h3 h] at h2;exact h' h2
theorem Lj (a b:List Int):(HT a b||HT b a)=true:=by
 unfold HT;have:=kv a b;rcases Int.lt_or_le (bC b a) 0 with h|h
 ·rw[decide_eq_false (p:=bC a b<0) adh,Bool.not_false,Bool.or_true]
 ·rw[decide_eq_false (p:=bC b a<0) adh];rfl
theorem Pf (l:List (List Int)):(vK l).Pairwise fun x y=>HT x y=true:=List.pairwise_mergeSort Li Lj l
theorem Pg (a:List Int):HT a a=true:=by unfold HT;rw[decide_eq_false (vY a)];rfl
theorem zd {l:List (List Int)}(h:l.Pairwise fun x y=>HT x y=true):∀i,i≤l.length→(eA (fun x y=>decide (x=y)) l i).Pairwise rL∧∀z,z∈eA (fun x y=>decide (x=y)) l i↔z∈l.take i
 | 0,_=>⟨List.Pairwise.nil,fun z=>Iff.rfl⟩
 | i + 1, hi => by
   obtain⟨h1,h2⟩:=zd h i adh;have hle:∀j k,j≤k→k<l.length→HT (l.getD j default) (l.getD k default)=true:=fun j k hj hk=>by
     rw[cU (show j<l.length by omega),cU hk];rcases Nat.eq_or_lt_of_le hj with q|q
     · subst q;exact Pg _
     · exact acr.1 h j k _ _ q
   by_cases hd:0<i∧l.getD i default=l.getD (i-1) default
   · rw [nN hd.1 (decide_eq_true hd.2)]
     refine⟨h1,fun z=>(h2 z).trans ?_⟩;rw[take_succ (show i<l.length by omega),abl,aaY];refine⟨.inl,fun q=>q.elim id fun q=>?_⟩;rw[q,hd.2,List.mem_take_iff_getElem];exact⟨i-1,adh,(cU adh).symm⟩
   · have hn : eA (fun x y => decide (x = y)) l (i + 1) = eA (fun x y => decide (x = y)) l i ++ [l.getD i default] := by
       rw[eA,if_neg (fun q=>hd ⟨q.1,of_decide_eq_true q.2⟩)]
     rw[hn];refine⟨List.pairwise_append.2 ⟨h1,aci _ _,fun c hc y hy=>?_⟩,fun z=>?_⟩
     · rw [aaY.1 hy]
       obtain⟨j,hj,rfl⟩:=List.mem_take_iff_getElem.1 ((h2 c).1 hc);have hj':j<i:=adh;have e:l[j]'adh=l.getD j default:=(cU adh).symm;rw[e];have q1:=hle j i adh adh;by_cases h3:bC (l.getD j default) (l.getD i default)<0
       · exact h3
       · have q1' : ¬ bC (l.getD i default) (l.getD j default) < 0 := by unfold HT at q1; simpa using q1
         have e2:=mE h3 q1';have q2:=hle j (i-1) adh adh;have q3:=hle (i-1) i adh adh;rw[e2] at q2;have q2':¬bC (l.getD (i-1) default) (l.getD i default)<0:=by unfold HT at q2;simpa using q2
         have q3':¬bC (l.getD i default) (l.getD (i-1) default)<0:=by unfold HT at q3;simpa using q3
         exact absurd ⟨adh,mE q3' q2'⟩ hd
     · rw[abl,h2 z,take_succ (show i<l.length by omega),abl]
theorem Ph (F:List (List aI)):RI F=dM F:=by
 unfold RI dM sJ;obtain⟨h1,h2⟩:=zd (Pf (eN F (aQ F F.length 0))) _ (aaD _);refine ph FY h1 (zc F F.length 0) fun z=>(h2 z).trans ?_
 rw[abK,vf,BE]
structure Good (f:aI):Prop where
 lt:∀x∈f.af,0≤x∧x<64
 pw:f.cuts.Pairwise (·<·)
 bd:∀c∈f.cuts,0<c∧c<f.af.length
def zf (w:List Int):Prop:=∀x∈w,0≤x∧x<64
variable{w:List Int}
theorem Pj {r:aG}(h:zf w):zf (bp r w):=by
 unfold bp;split
 · next hk =>
   rw[aaZ] at hk;have hr:=hk.1;unfold bK at hr;simp only[aaZ] at hr;have hp:=aa5.1 hr.1.2;intro x hx;obtain⟨i,hi,hx⟩:=aca.1 hx;have hw:0≤w.getD i default∧w.getD i default<64:=h _ (aO (aba.1 hi));split at hx
   · next p hpo =>
     split at hx
     · have hm : p ∈ r.pairs := acm hpo
       have:=hp p hm;unfold jA fP at this;simp only[aaZ] at this;exact Hi (aa5.1 this.2 x hx)
     · rw[aaY.1 hx];exact hw
   · rw[aaY.1 hx];exact hw
 · exact h
theorem Pk:∀ {l:List aG}{w:List Int},zf w→zf (wK w l)
 | [],w,h=>h
 | r :: l,w,h=>Pk (l:=l) (Pj h)
theorem Pm {o x:List Int}(ho:zf o)(hx:zf x):zf (lh o x):=by
 unfold lh;split
 · exact ho
 · split
   · exact hx
   · intro y hy
     rcases abl.1 hy with hy|hy
     · rcases abl.1 hy with hy | hy
       · exact ho y hy
       · rw[aaY.1 hy];decide
     · exact hx y hy
theorem Pn {l:List (List Int)}(h:∀x∈l,zf x):zf (iM l):=by
 have key:∀(l:List (List Int))(o:List Int),(∀x∈l,zf x)→zf o→zf (l.foldl lh o):=by
  intro l
  induction l with
  | nil=>intro o _ h;exact h
  | cons x l ih=>intro o h ho;exact ih _ (fun y hy=>h y (aaW _ hy)) (Pm ho (h x aaJ))
 exact key l [] h (fun x hx=>by cases hx)
variable{l:List Int}
theorem sD (h:gH l=true):zf l:=fun x hx=>by have:=aa5.1 h x hx;unfold K3 at this;simp only[aaZ,decide_eq_true_eq] at this;omega
theorem Lk (l:List Int)(x:Int):fz (l++[x])=x:=by unfold fz;rw[aaM,show l.length+[x].length-1=l.length from rfl,aax,aa6 (aaD _),acM];rfl
theorem RJ {i:Nat}(h:i<w.length):nL w i≤nL w (i+1):=by
 by_cases q:w.getD i default=63
 ·rw[xa h q];exact Int.le_refl _
 ·rw[CT h q];omega
theorem Po (w:List Int):∀ i,i≤w.length→(fi w i).Pairwise (·<·)∧(∀ c∈fi w i,0<c∧c≤fz (fi w i)∧c<((hJ w).length:Nat))∧(0<(fi w i).length→fz (fi w i)≤nL w i)
 | 0,_=>⟨List.Pairwise.nil,(fun c hc=>by cases hc),(fun h=>by cases h)⟩
 | i + 1, hi => by
   obtain⟨h1,h2,h3⟩:=Po w i adh;have hm:=RJ (w:=w) (i:=i) adh;by_cases hx:w.getD i default=63
   · by_cases hs : nL w i = 0 ∨ nL w i = ((hJ w).length : Nat) ∨ (0 < (fi w i).length ∧ fz (fi w i) = nL w i)
     · rw[ql hx hs];exact⟨h1,h2,fun h=>Int.le_trans (h3 h) hm⟩
     · rw [yX hx hs, Lk]
       have hne:∀c∈fi w i,c<nL w i:=fun c hc=>by
         have hl:0<(fi w i).length:=acD hc;have:=(h2 c hc).2.1;have h4:=h3 hl;have h5:fz (fi w i)≠nL w i:=fun q=>hs (.inr (.inr ⟨hl,q⟩))
         omega
       have hnn:0≤nL w i:=by unfold nL;omega
       have hnl:nL w i≤((hJ w).length:Nat):=by
         unfold nL;have:(hJ (w.take i)).length≤(hJ w).length:=by
           unfold hJ;exact List.Sublist.length_le (List.Sublist.filter _ (List.take_sublist i w))
         omega
       refine⟨List.pairwise_append.2 ⟨h1,aci _ _,fun c hc y hy=>by rw[aaY.1 hy];exact hne c hc⟩,fun c hc=>?_,fun _=>hm⟩;rcases abl.1 hc with hc|hc
       · have := hne c hc
         exact⟨(h2 c hc).1,adh,(h2 c hc).2.2⟩
       · rw [aaY.1 hc]
         refine⟨?_,Int.le_refl _,?_⟩
         · have:nL w i≠0:=fun q=>hs (.inl q);omega
         · have:nL w i≠((hJ w).length:Nat):=fun q=>hs (.inr (.inl q));omega
   · rw[CU hx];exact⟨h1,h2,fun h=>Int.le_trans (h3 h) hm⟩
theorem sE:Good Jf:=⟨(fun x hx=>by cases hx),List.Pairwise.nil,(fun c hc=>by cases hc)⟩
theorem HU (g:aA)(cl cn:List UInt8)(w:List Int):Good (gk g cl cn w):=by
 unfold gk;split
 · next h =>
   have hu:hU g cl cn=0:=by
     by_cases q:hU g cl cn=0
     · exact q
     · rw[oa q] at h;exact h
   have hf:jg (bk g cl) w=true:=by
     cases q:jg (bk g cl) w
     · rw[tQ hu q] at h;cases h
     · rfl
   have hok:j4 g cl cn=true:=by
     unfold hU at hu;split at hu
     · cases hu
     · split at hu
       · cases hu
       · next h2=>simpa using h2
   unfold j4 u2 at hok;simp only[aaZ] at hok;have hl:gH w=true:=by unfold jg at hf;simp only[aaZ] at hf;exact hf.1.2
   have hst:zf (bU g cl w):=fun x hx=>sD hl x (abO hx)
   have hj:zf (u3 g cl cn w):=Pn fun x hx=>by
     simp only[aa3,acX,or_false] at hx;rcases hx with rfl|rfl|rfl
     · exact sD hok.1.1.1.1.2.2
     · exact Pk hst
     · exact sD hok.1.1.1.2.2
   have hw:zf (wK (u3 g cl cn w) (oq g)):=Pk hj;generalize wK (u3 g cl cn w) (oq g)=W at hw;obtain⟨c1,c2,_⟩:=Po W W.length (aaD _);exact⟨fun x hx=>hw x (abA.1 hx).1,c1,fun c hc=>⟨(c2 c hc).1,(c2 c hc).2.2⟩⟩
 · exact sE
def v7 (F:List (List aI)):Prop:=∀r∈F,∀x∈r,Good x
theorem mF (g:aA)(l:List da):v7 (aL g l):=fun r hr x hx=>by
 obtain⟨y,_,rfl⟩:=aa7.1 hr;unfold fw at hx;split at hx
 ·obtain⟨c,_,rfl⟩:=aa7.1 hx;exact HU _ _ _ _
 ·cases hx
theorem v7.at (h:v7 F)(p:Nat×Nat):Good (a8 F p):=by
 unfold a8;rcases aa9 p.1 F.length with h1|h1
 ·rcases aa9 p.2 (F.getD p.1 default).length with h2|h2
  ·exact h _ (aO h1) _ (aO h2)
  ·rw[aax (l:=F.getD p.1 default),abg h2];exact sE
 ·rw[aax (l:=F),abg h1];show Good (([]:List aI).getD p.2 default);exact sE
theorem str_inj {a b:List UInt8}(h:Ld a=Ld b):a=b:=by unfold Ld at h;simp only[Value.string.injEq,ByteArray.mk.injEq] at h;have:=congrArg Array.toList h;simpa using this
theorem Pp {x y:Int}(hx:0≤x∧x<64)(hy:0≤y∧y<64)(h:UInt8.ofNat x.toNat=UInt8.ofNat y.toNat):x=y:=by have:=congrArg UInt8.toNat h;simp only[UInt8.toNat_ofNat'] at this;omega
theorem bytes_inj:∀ {a b:List Int},zf a→zf b→a.map (fun n=>UInt8.ofNat n.toNat)=b.map (fun n=>UInt8.ofNat n.toNat)→a=b
 | [],[],_,_,_=>rfl
 | [],_ :: _,_,_,h=>by cases h
 | _ :: _,[],_,_,h=>by cases h
 | x :: a, y :: b, ha, hb, h => by
   simp only[abx,ac3] at h;rw[Pp (ha x aaJ) (hb y aaJ) h.1,bytes_inj (fun z hz=>ha z (aaW _ hz)) (fun z hz=>hb z (aaW _ hz)) h.2]
theorem FZ :w.all FC=true↔zf w:=by rw[aa5];unfold zf FC;simp only[aaZ,decide_eq_true_eq]
theorem F0 (h:zf w):qp w=w.map fun n=>UInt8.ofNat n.toNat:=if_pos (FZ.2 h)
theorem RK {a:List Int}(ha:zf a):qp a=qp w↔a=w:=by
 refine⟨fun h=>?_,fun h=>by rw[h]⟩;rw[F0 ha] at h;by_cases hw:zf w
 · rw[F0 hw] at h;exact bytes_inj ha hw h
 · have : qp w = FD := if_neg (fun q => hw (FZ.1 q))
   rw[this] at h
   match a,h with
   | x :: a, h =>
     simp only[abx,FD,ac3] at h;have h1:=congrArg UInt8.toNat h.1;have:=ha x aaJ;simp only[UInt8.toNat_ofNat'] at h1;have h2:(110:UInt8).toNat=110:=rfl;omega
theorem RL (hG:v7 F)(w:List Int):cw F w=(aQ F F.length 0).filter fun p=>decide ((a8 F p).af=w):=by
 unfold cw atKey;refine ada fun p _=>?_
 rw[decide_eq_decide];unfold iB;exact⟨fun h=>(RK (hG.at p).lt).1 (str_inj h),fun h=>by rw[h]⟩
theorem HV (hG:v7 F)(w:List Int):ke F w=eQ F w:=by unfold ke eQ lk;rw[RL hG]
theorem F1 {a:jj}(h:a∈eQ F w):∃p∈aQ F F.length 0,a=⟨(p.1:Nat),a8 F p⟩∧a.form.af=w:=by unfold eQ lk at h;obtain⟨p,hp,rfl⟩:=aa7.1 h;have:=abA.1 hp;exact⟨p,this.1,rfl,of_decide_eq_true this.2⟩
theorem Ju (hG:v7 F)(w:List Int):cJ (ke F w) (ke F w).length=rQ F w:=by
 rw[HV hG];have hA:∀a∈eQ F w,Good a.form∧a.form.af=w:=fun a ha=>by
   obtain⟨p,_,rfl,h⟩:=F1 ha;exact⟨hG.at p,h⟩
 unfold rQ;generalize eQ F w=l at hA;by_cases h0:l.length=0
 · rw[if_pos h0,h0];rfl
 · rw [if_neg h0]
   unfold cJ;rw[if_neg h0,abK];have hm0:l.getD 0 default∈l:=aO adh;obtain⟨g0,l0⟩:=hA _ hm0;refine ph (r:=(·<·)) (fun x y h h'=>by omega) (g0.pw.filter _) ?_ fun z=>?_
   · unfold u9
     refine acV.2 (List.Pairwise.filter _ ?_);exact ade (fun h=>by omega) (List.pairwise_lt_range (n:=w.length+1))
   · unfold u9 UR
     rw[abA,aa7,abK];constructor
     · rintro ⟨h1, h2⟩
       have hb:=g0.bd z h1;rw[l0] at hb;refine⟨z.toNat,abA.2 ⟨aba.2 adh,?_⟩,adh⟩;rw[show((z.toNat:Nat):Int)=z by omega];exact h2
     · rintro ⟨c, hc, rfl⟩
       obtain⟨_,h2⟩:=abA.1 hc;refine⟨?_,h2⟩;have:=aa5.1 h2 _ hm0;unfold yY at this;obtain⟨y,hy,he⟩:=abk.1 this;rw[←of_decide_eq_true he];exact hy
def gT (n:Int):List UInt8:=if n≤9 then[UInt8.ofNat (48+n).toNat] else[UInt8.ofNat (48+n / 10).toNat,UInt8.ofNat (48+n % 10).toNat]
theorem mH (n:Int):(gT n).length≤2:=by by_cases h:n≤9<;>simp[gT,h]
theorem Pq {x:Int}(h:0≤x∧x<256):IntKind.u8.wrap x=x:=by
 have:IntKind.u8.wrap x=x % 256:=by
  simp only[IntKind.wrap,IntKind.bits,IntKind.signed]
  first|rfl|(simp;omega)|omega
 rw[this];omega
theorem Pr {n:Nat}:l.drop (if(l.length:Int)<(n:Int) then(l.length:Int) else(n:Int)).toNat=l.drop n:=by
 split
 ·rw[acb,List.drop_length,abM adh]
 ·rw[acb]
theorem iK.drop (h:iK l)(n:Nat):iK (l.drop n):=fun x hx=>h x (abp hx)
end Go.Wf
namespace Go.Proofs.YtlapahnodhmcpaaGreat
open Go.Am Go.Wb Go.Wc Go.Wf Go.We
abbrev aae:=dT 2 Tryz.func77
variable{n:Int}
theorem Ll (hn:0≤n∧n<16):au Tryz.prog 77 [int n] (.p (ak (N6.getD n.toNat default))):=by
 refine cF aae fun w0 M0 ae=>?_
 refine db [7,1] [3,4] [] ?_;refine oP J (pz (f:=ak) (l:=N6) J Tryz.underlying27 SF J J (by simp only[aaE,aaL];omega) (fun _=>rfl)) ?_;refine wZ [8005] ?_;rfl
abbrev aaf:=dT 0 Tryz.func43
theorem zg:au Tryz.prog 43 [] (.p (af aU)):=by
 refine cF aaf fun w0 M0 ae=>?_
 refine AD [17,8004] ?_;rfl
abbrev aag:=dT 4 Tryz.func31
variable{l:List Int}
theorem BF (hl:l.length≤9223372036854775807)(hn:0≤n∧n≤1000):au Tryz.prog 31 [ints l,int n] (.fresh 3 ((l.take n.toNat).map int)):=by
 have hmin:(if n<(l.length:Int) then n else(l.length:Int)).toNat≤1000:=by split<;>omega
 refine cF aag fun w0 M0 ae=>?_
 refine db [1002,1004,7,1] [6,7,9,10] [5] ?_;refine oP J (DK J J J) ?_;refine oP J (sW J Tryz.underlying22 w6 J J (by simp only[aaA];omega) (mQ fun _=>rfl)) ?_;refine wA [0] [6,12] [5] ?_;refine oS J (step_append J J J J Tryz.underlying22 Vi J J ae (L7 J (fun _=>⟨_,rfl⟩)) (by simp only[aaA,aaO,aaL];omega) (by simp only[aaA,aaO,aaL];omega)) J ?_;refine wZ [8004] ?_;rw[N7];rfl
abbrev aah:=dT 2 Tryz.func44
theorem zZ (hl:l.length≤9223372036854775807)(h64:iK l):au Tryz.prog 44 [ints l] (.fresh 143 ((ay l).map G4)):=by
 have a0:=lx (l:=l) (i:=0) (most:=6) adj;have a1:=lx (l:=l) (i:=1) (most:=16) adj;refine cF aah fun w0 M0 ae=>?_
 refine db [1002,5] [0,8] [] ?_;refine oC J J J J (iL adk adh) ?_;refine wA [0,6] [0,3,11] [] ?_;refine oC J J J J (iL adk adh) ?_;refine wA [1005,9] [0,3,4,5,6] [5] ?_;refine lr (fun zl zo zm zs=>∃i:Nat,zm=(3+nw l 0 6).toNat-i∧(i≤(3+nw l 0 6).toNat)∧zs=eV 64 [(5,.own 5),(6,vvw (int i))] zl [(5,.arr 143 ((mr l (nw l 1 16) i).map G4))] zo) ?_ ?_;exact⟨_,0,rfl,aaG _,rfl⟩;rintro zm zs ⟨i,rfl,aY,rfl⟩;have b1:=lx (l:=l) (i:=2+i) (most:=9) adj;have b2:=lx (l:=l) (i:=10+i) (most:=3) adj;have b3:=lx (l:=l) (i:=30+i) (most:=4) adj;have b4:=lx (l:=l) (i:=40+i) (most:=2) adj;have b5:=fun h:0<(i:Int)=>lx (l:=l) (i:=20+i) (most:=i) h
 have b6:=oX l (nw l 1 16) i;refine wS [3008] [0,3,4,5,6,15] [5] ?_ ?_<;>intro h1;refine wA [9,0,0] [0,3,4,5,6,21] [5] ?_;refine oC J J J J (Ll adh) ?_;refine wZ [3,5000] ?_;refine oC J J J J (iL adk adh) ?_;refine wS [0,4011] [0,3,4,5,6,7,32] [5,7] ?_ ?_<;>intro h2';refine wZ [2,5000] ?_;refine oC J J J J (iL adk adh) ?_;refine wS [3004] [0,3,4,5,6,7,38] [5,7] ?_ ?_<;>intro h3;refine wA [6,1] [0,3,4,5,6,7,39,40,42,43] [5,7] ?_;refine oC J J J J (iL adk adh) ?_;refine oP J (ah J Tryz.underlying23 Wo J J J (by simp only[aaA];have:=b5 adh;omega)) ?_;refine wA [0] [0,3,4,5,6,7,45] [5,7] ?_;refine oP J (bn J Q1 J J) ?_;refine oP J (c3 J SD J J (e9 (by have:=b5 adh;omega)) J) ?_;refine wZ [8,5000] ?_;refine oC J J J J (iL adk adh) ?_;refine wZ [7,5000] ?_;refine oC J J J J (iL adk adh) ?_;refine wA [7,1000,6,9002] [0,3,4,5,6] [5] ?_;rotate_left;refine wA [6,1000,6,9002] [0,3,4,5,6] [5] ?_;rotate_left;refine wA [14,1000,6,9002] [0,3,4,5,6] [5] ?_;rotate_left;refine wZ [8013] ?_;rw[ay,show i=(3+nw l 0 6).toNat by omega]
 all_goals
  exact⟨_,⟨i+1,rfl,adh,by rw[mr,aaK,ac7,IL];first|(rw[if_pos ⟨adh,adh⟩];rfl)|(rw[if_neg adh];rfl)⟩,adh⟩
abbrev aai:=dT 4 Tryz.func45
theorem kC {n:Nat}(hl:l.length≤9223372036854775807)(hn:n≤1000):aV Tryz.prog 45 [ints l,int n] (.p (ints (l.drop n))):=by
 have hmin:(if(l.length:Int)<(n:Int) then(l.length:Int) else(n:Int)).toNat≤l.length:=by split<;>omega
 refine cN aai fun w0 M0 ae=>?_
 refine AD [10,5000] ?_;refine oP J (DK J J J) ?_;refine wA [0] [5,9] [] ?_;refine oP J (nt J Tryz.underlying22 w6 J J (by split<;>omega) (fun _=>rfl)) ?_;refine wZ [8004] ?_;rw[Pr]
abbrev aaj:=dT 2 Tryz.func66
theorem iC (hn:0≤n∧n≤99):aV Tryz.prog 66 [int n] (.p (ak (gT n))):=by
 refine cN aaj fun w0 M0 ae=>?_
 refine db [12] [0,3] [] ?_;refine lp (fun zm zs=>∃(q:Int)(s:List UInt8),zm=q.toNat∧(0≤q)∧(s.length≤1)∧((q=n∧s=[])∨(9<n∧q=n / 10∧s=[UInt8.ofNat (48+n % 10).toNat]))∧zs=⟨23,[(0,vvw (int q)),(3,vvw (ak s))],[]⟩) ?_ ?_;exact⟨_,n,[],rfl,hn.1,aaG _,.inl ⟨rfl,rfl⟩,rfl⟩;rintro zm zs ⟨q,s,rfl,aY,ax,c7,rfl⟩;refine wS [3007] [0,3,5] [] ?_ ?_<;>intro h1;refine wA [7,0,0] [0,3,8] [] ?_;refine oP J (c9 (a':=(48+q % 10)) (nE J Tryz.underlying3 Tryz.underlying5 J) (Pq adh)) ?_;refine wA [0,0] [0,3,10] [] ?_;refine oP J (uj J Tryz.underlying149 Tryz.underlying5 Tryz.underlying9 J J) ?_;refine wA [1] [0,11,12] [] ?_;refine oP J (iF J J J (by simp only[aaA,aaE,aaL];omega)) ?_;refine wA [5,9003] [0,3] [] ?_;have hq:q=n∧s=[]:=c7.elim id (fun h=>by omega);obtain⟨rfl,rfl⟩:=hq;exact⟨_,⟨q / 10,[UInt8.ofNat (48+q % 10).toNat],rfl,adh,aaD _,.inr ⟨adh,rfl,rfl⟩,rfl⟩,adh⟩;refine wZ [9,5000] ?_;refine oP J (c9 (a':=(48+q)) (nE J Tryz.underlying3 Tryz.underlying5 J) (Pq adh)) ?_;refine wZ [0,5000] ?_;refine oP J (uj J Tryz.underlying149 Tryz.underlying5 Tryz.underlying9 J J) ?_;refine wA [1] [20,21] [] ?_;refine oP J (iF J J J (by simp only[aaA,aaE,aaL];omega)) ?_;refine wZ [8004] ?_;rcases c7 with⟨rfl,rfl⟩|⟨h1,rfl,rfl⟩
 ·unfold gT;rw[if_pos adh];rfl
 ·unfold gT;rw[if_neg adh];rfl
theorem aak:ug Tryz.prog 68 Tryz.f68.ntmps 2 87 3 (Tryz.f68.body.getD .skip):=⟨Tryz.f68,Tryz.func68,rfl,rfl,rfl,adi,je,bY⟩
theorem qZ {l:List Rx}(hs:Rx.aE l≤1099511627776):aV Tryz.prog 68 [jM l] (.p (rx (c4 l))):=by
 have hl:=du l;refine bh aak (aaz J) fun w0 M0 ae=>?_
 refine db [1007,9] [0,2,3,4] [2,3] ?_;refine lr (fun zl zo zm zs=>∃i:Nat,zm=l.length-i∧(i≤l.length)∧(∀j,j<i→(l.getD j default).kind≠0)∧zs=eV 56 [(3,.own 3),(4,vvw (int i))] zl [(3,.arr 87 ((ez (l.take i)).map rx))] zo) ?_ ?_;exact⟨_,0,rfl,aaG _,fun j hj=>absurd hj adh,rfl⟩;rintro zm zs ⟨i,rfl,aY,ax,rfl⟩;have hroom:=fun h=>AH (l:=l) (i:=i) h
 refine wS [5,3003] [0,2,3,4,8] [2,3] ?_ ?_<;>intro h1;refine wS [10,3005] [0,2,3,4,16] [2,3] ?_ ?_<;>intro h2;refine wZ [14] ?_;refine ao J ?_;rotate_left;refine wS [7,3005] [0,2,3,4,23] [2,3] ?_ ?_<;>intro h3;refine wA [1] [0,2,3,4] [2,3] ?_;have hr:=hroom adh;refine wA [4,2] [0,2,4,24,29] [2,3] ?_;refine oS J (step_append J J J J Tryz.underlying85 jz J J ae (w8 (l:=(l.getD i default).kids) J) (by first|(simp only[ll];omega)|omega) (by first|(simp only[ll];omega)|omega)) J ?_;refine wA [6,9002] [0,2,3,4] [2,3] ?_;rotate_left;refine wS [5,3005] [0,2,3,4,36] [2,3] ?_ ?_<;>intro h4;refine wA [1] [0,2,3,4] [2,3] ?_;have hr:=hroom adh;refine wA [4,1,1000,6,9002] [0,2,3,4] [2,3] ?_;rotate_left;refine wA [6,9002] [0,2,3,4] [2,3] ?_;rotate_left;refine wS [10,3003] [2,3,46] [2,3] ?_ ?_<;>intro h5;refine wZ [9] ?_;refine ao J ?_;rotate_left;refine wA [5] [2,3] [2,3] ?_;refine aD 56 [(2,_),(3,_)] [(2,_)] ae J ⟨.inl J,.inr ⟨_,_,rfl,rfl,rfl⟩,trivial⟩ ⟨rfl,trivial⟩ ?_;refine Ve [2,3003] [2,3,50] [2] ?_ ?_<;>intro h6;refine wZ [4,6] ?_;refine ao J ?_;rotate_left;refine wA [6] [2,54] [2] ?_;refine oN J J J J J (CK 3 (ez (l.take i))) ?_;refine wZ [4] ?_;refine ao J ?_;rotate_left
 all_goals first
  | (
    first|(rw[uz (i:=i) adh adh];rfl)|(rw[nM (fun j hj=>ax j adh)];rw[show ez l=ez (l.take i) by rw[aa2 adh]];first|(rw[GO adh];first|done|rfl)|(rw[GP adh];first|done|rfl)|(rw[sb adh adh];first|done|rfl)|(rw[sb adh adh,mT];rfl));done)
  | (
    exact⟨_,⟨i+1,rfl,adh,cc ax adh,by rw[uy adh];first|(rw[mi adh,abe];rfl)|(rw[iP adh,aaK];rfl)|(rw[ep adh adh,aaK];rfl)⟩,adh⟩;done)
abbrev X6:=dT 4 Tryz.func134
theorem vi {l:List Rx}{x:Rx}(hs:Rx.aE l≤549755813888)(hx:x.size≤549755813888):aV Tryz.prog 134 [jM l,rx x] (.p (jM (qd l x))):=by
 have hl:=du l;have hk:=fun k (h:k<l.length)=>gB (aS h)
 refine cN X6 fun w0 M0 ae=>?_
 refine db [2,10] [0,3,5] [] ?_;refine lr (fun zl zo zm zs=>∃k:Nat,zm=l.length-k∧(k≤l.length)∧(∀j,j<k→dt (l.getD j default) x<0)∧zs=eV 48 [(5,vvw (int k))] zl [] zo) ?_ ?_;exact⟨_,0,rfl,aaG _,fun j hj=>absurd hj adh,rfl⟩;rintro zm zs ⟨k,rfl,aY,ax,rfl⟩;refine wS [2002,6002,7002] [0,3,5,11] [] ?_ ?_<;>intro h1';refine wA [6002,2] [0,3,5,11,15,16] [] ?_;refine oE J J J J J J (rI _ (l.getD k default) x (aaD _) (by have:=hk k adh;omega) adh) ?_;refine wS [3004] [0,3,5,19] [] ?_ ?_<;>intro h2;refine wA [6,9003] [0,3,5] [] ?_;exact⟨_,⟨k+1,rfl,adh,cc ax adh,rfl⟩,adh⟩;refine wS [2008,6002,7002] [0,3,5,26] [] ?_ ?_<;>intro h3';refine wA [6002,2] [0,3,5,26,30,31] [] ?_;refine oE J J J J J J (Bb (a:=l.getD k default) (b:=x) (by have:=hk k adh;omega) adh) ?_;refine wS [3003] [0,3,5,33] [] ?_ ?_<;>intro h4;refine wZ [8009] ?_;rotate_left;refine wA [9] [0,3,5,6] [] ?_;refine kp (n:=48) (o2:=[(39,.arr 87 ((l.take k).map rx))]) 4 7 [(35,vvv),(36,vvw (jM l)),(37,vvw (int k)),(38,vvw (jM (l.take k))),(39,.own 39),(40,vvw (.agg [int x.kind,ints x.syms,.sl (Rx.gv x.kids)])),(41,vvw (.sl [(.agg [int x.kind,ints x.syms,.sl (Rx.gv x.kids)])])),(0,vvw (jM l)),(3,vvw (.pc [int (x).kind,ints (x).syms,.sl (Rx.gv (x).kids)] 0)),(5,vvw (int k)),(6,vvv)] mixed adi adi adi J adi (fun t d h=>h) J ?_ ?_ ?_ ?_ ?_
 ·intro i hi;rcases(by omega:i=0∨i=1∨i=2∨i=3∨i=4∨i=5∨i=6) with rfl|rfl|rfl|rfl|rfl|rfl|rfl<;>exact⟨_,_,rfl,rfl⟩
 ·intro i o t d hi hia ho hd hG hn;rcases(by omega:i=0∨i=1∨i=2∨i=3∨i=5∨i=6) with rfl|rfl|rfl|rfl|rfl|rfl
  ·injection (show some _=some o from ho) with ho;subst ho;injection (show some _=some t from hd) with hd;subst hd;injection (show some _=some d from hG) with hG;subst hG;exact cO J J
  ·injection (show some _=some o from ho) with ho;subst ho;injection (show some _=some t from hd) with hd;subst hd;injection (show some _=some d from hG) with hG;subst hG;exact cO J J
  ·injection (show some _=some o from ho) with ho;subst ho;injection (show some _=some t from hd) with hd;subst hd;injection (show some _=some d from hG) with hG;subst hG;exact cO J J
  ·injection (show some _=some o from ho) with ho;subst ho;injection (show some _=some t from hd) with hd;subst hd;injection (show some _=some d from hG) with hG;subst hG;exact fq (f:=rx) (l:=l) (j:=(k:Int)) J Tryz.underlying85 bY J J adh (fun _=>rfl)
  ·injection (show some _=some o from ho) with ho;subst ho;injection (show some _=some t from hd) with hd;subst hd;injection (show some _=some d from hG) with hG;subst hG;exact aF (cs:=[int x.kind,ints x.syms,.sl (Rx.gv x.kids)]) (off:=0) J je bY J (aaz J)
  ·injection (show some _=some o from ho) with ho;subst ho;injection (show some _=some t from hd) with hd;subst hd;injection (show some _=some d from hG) with hG;subst hG;exact eF J Tryz.underlying85 jz J J J J ae
 ·intro i o t d hi hia ho hd hG hn;rcases(by omega:i=0∨i=1∨i=2∨i=3∨i=5∨i=6) with rfl|rfl|rfl|rfl|rfl|rfl
  ·exact absurd hn adj
  ·exact absurd hn adj
  ·exact absurd hn adj
  ·exact absurd hn adj
  ·injection (show some _=some o from ho) with ho;subst ho;injection (show some _=some t from hd) with hd;subst hd;injection (show some _=some d from hG) with hG;subst hG;exact aF (cs:=[int x.kind,ints x.syms,.sl (Rx.gv x.kids)]) (off:=0) J je bY J (aaz J)
  ·injection (show some _=some o from ho) with ho;subst ho;injection (show some _=some t from hd) with hd;subst hd;injection (show some _=some d from hG) with hG;subst hG;exact eF J Tryz.underlying85 jz J J J J ae
 ·intro o X ho eC dv cZ;have HW:35∈looks _ o→X.lookup 35=some (vvv):=fun h=>(cZ 35 h).trans rfl
  have HX:38∈looks _ o→X.lookup 38=some (vvw (jM (l.take k))):=fun h=>(cZ 38 h).trans rfl
  injection (show some _=some o from ho) with ho';obtain⟨s',g1,g2⟩:=s8 (o:=o) (f:=rx) (l:=l.take k) (n:=48) (X:=X) (t:=39) (u:=35) (v:=38) (by rw[←ho'];rfl) (by rw[←ho'];rfl) rfl eC Tryz.underlying85 jz (HW (by rw[←ho'];decide)) (HX (by rw[←ho'];decide)) (fun _=>rfl) (by rw[aaA,aaO];omega) (by rw[aaA,aaO];omega) (fun t' d h hne=>fK (by rfl) (dv t' d h) hne) rfl ae;exact⟨39,_,s',by rw[←ho'];rfl,rfl,g1,g2⟩
 refine bM (n:=2) adi ?_;refine aH (i:=7) adi J J (step_append J J J J Tryz.underlying85 jz J J ae (cA J (bO (by rfl))) (by simp only[aaM,aaA,aaO,aaX,aaL,aaE];omega) (by simp only[aaM,aaA,aaO,aaX,aaL,aaE];omega)) ?_;refine xe 8 ?_;refine bf adi ?_;refine hZ [6] [43,44,45] [39] ?_;refine wZ [0,5000] ?_;refine oS J (step_append J J J J Tryz.underlying85 jz J J ae (dX (f:=rx) (l:=l.drop k) J (fun _=>rfl)) (by simp only[aaM,aaA,aaO,aaX,aaL,aaE];omega) (by simp only[aaM,aaA,aaO,aaX,aaL,aaE];omega)) J ?_;refine ko 48 [(47,_)] [] ae J ⟨.inr ⟨_,_,rfl,rfl,rfl⟩,trivial⟩ trivial ?_;refine GM [8004] ?_;rotate_left;refine wA [18] [0,3,5,6] [] ?_;refine kp (n:=48) (o2:=[(39,.arr 87 ((l.take k).map rx))]) 4 7 [(35,vvv),(36,vvw (jM l)),(37,vvw (int k)),(38,vvw (jM (l.take k))),(39,.own 39),(40,vvw (.agg [int x.kind,ints x.syms,.sl (Rx.gv x.kids)])),(41,vvw (.sl [(.agg [int x.kind,ints x.syms,.sl (Rx.gv x.kids)])])),(0,vvw (jM l)),(3,vvw (.pc [int (x).kind,ints (x).syms,.sl (Rx.gv (x).kids)] 0)),(5,vvw (int k)),(6,vvv)] mixed adi adi adi J adi (fun t d h=>h) J ?_ ?_ ?_ ?_ ?_
 ·intro i hi;rcases(by omega:i=0∨i=1∨i=2∨i=3∨i=4∨i=5∨i=6) with rfl|rfl|rfl|rfl|rfl|rfl|rfl<;>exact⟨_,_,rfl,rfl⟩
 ·intro i o t d hi hia ho hd hG hn;rcases(by omega:i=0∨i=1∨i=2∨i=3∨i=5∨i=6) with rfl|rfl|rfl|rfl|rfl|rfl
  ·injection (show some _=some o from ho) with ho;subst ho;injection (show some _=some t from hd) with hd;subst hd;injection (show some _=some d from hG) with hG;subst hG;exact cO J J
  ·injection (show some _=some o from ho) with ho;subst ho;injection (show some _=some t from hd) with hd;subst hd;injection (show some _=some d from hG) with hG;subst hG;exact cO J J
  ·injection (show some _=some o from ho) with ho;subst ho;injection (show some _=some t from hd) with hd;subst hd;injection (show some _=some d from hG) with hG;subst hG;exact cO J J
  ·injection (show some _=some o from ho) with ho;subst ho;injection (show some _=some t from hd) with hd;subst hd;injection (show some _=some d from hG) with hG;subst hG;exact fq (f:=rx) (l:=l) (j:=(k:Int)) J Tryz.underlying85 bY J J adh (fun _=>rfl)
  ·injection (show some _=some o from ho) with ho;subst ho;injection (show some _=some t from hd) with hd;subst hd;injection (show some _=some d from hG) with hG;subst hG;exact aF (cs:=[int x.kind,ints x.syms,.sl (Rx.gv x.kids)]) (off:=0) J je bY J (aaz J)
  ·injection (show some _=some o from ho) with ho;subst ho;injection (show some _=some t from hd) with hd;subst hd;injection (show some _=some d from hG) with hG;subst hG;exact eF J Tryz.underlying85 jz J J J J ae
 ·intro i o t d hi hia ho hd hG hn;rcases(by omega:i=0∨i=1∨i=2∨i=3∨i=5∨i=6) with rfl|rfl|rfl|rfl|rfl|rfl
  ·exact absurd hn adj
  ·exact absurd hn adj
  ·exact absurd hn adj
  ·exact absurd hn adj
  ·injection (show some _=some o from ho) with ho;subst ho;injection (show some _=some t from hd) with hd;subst hd;injection (show some _=some d from hG) with hG;subst hG;exact aF (cs:=[int x.kind,ints x.syms,.sl (Rx.gv x.kids)]) (off:=0) J je bY J (aaz J)
  ·injection (show some _=some o from ho) with ho;subst ho;injection (show some _=some t from hd) with hd;subst hd;injection (show some _=some d from hG) with hG;subst hG;exact eF J Tryz.underlying85 jz J J J J ae
 ·intro o X ho eC dv cZ;have HW:35∈looks _ o→X.lookup 35=some (vvv):=fun h=>(cZ 35 h).trans rfl
  have HX:38∈looks _ o→X.lookup 38=some (vvw (jM (l.take k))):=fun h=>(cZ 38 h).trans rfl
  injection (show some _=some o from ho) with ho';obtain⟨s',g1,g2⟩:=s8 (o:=o) (f:=rx) (l:=l.take k) (n:=48) (X:=X) (t:=39) (u:=35) (v:=38) (by rw[←ho'];rfl) (by rw[←ho'];rfl) rfl eC Tryz.underlying85 jz (HW (by rw[←ho'];decide)) (HX (by rw[←ho'];decide)) (fun _=>rfl) (by rw[aaA,aaO];omega) (by rw[aaA,aaO];omega) (fun t' d h hne=>fK (by rfl) (dv t' d h) hne) rfl ae;exact⟨39,_,s',by rw[←ho'];rfl,rfl,g1,g2⟩
 refine bM (n:=2) adi ?_;refine aH (i:=7) adi J J (step_append J J J J Tryz.underlying85 jz J J ae (cA J (bO (by rfl))) (by simp only[aaM,aaA,aaO,aaX,aaL,aaE];omega) (by simp only[aaM,aaA,aaO,aaX,aaL,aaE];omega)) ?_;refine xe 8 ?_;refine bf adi ?_;refine hZ [6] [43,44,45] [39] ?_;refine wZ [0,5000] ?_;refine oS J (step_append J J J J Tryz.underlying85 jz J J ae (dX (f:=rx) (l:=l.drop k) J (fun _=>rfl)) (by simp only[aaM,aaA,aaO,aaX,aaL,aaE];omega) (by simp only[aaM,aaA,aaO,aaX,aaL,aaE];omega)) J ?_;refine ko 48 [(47,_)] [] ae J ⟨.inr ⟨_,_,rfl,rfl,rfl⟩,trivial⟩ trivial ?_;refine GM [8004] ?_;rotate_left;refine wS [2018,6002,7002] [0,3,5,26] [] ?_ ?_<;>intro h5';refine wA [6002,2] [0,3,5,26,30,31] [] ?_;refine oE J J J J J J (Bb (a:=l.getD k default) (b:=x) (by have:=hk k adh;omega) adh) ?_;refine wS [3003] [0,3,5,33] [] ?_ ?_<;>intro h6;refine wZ [8009] ?_;rotate_left;refine wA [9] [0,3,5,6] [] ?_;refine kp (n:=48) (o2:=[(39,.arr 87 ((l.take k).map rx))]) 4 7 [(35,vvv),(36,vvw (jM l)),(37,vvw (int k)),(38,vvw (jM (l.take k))),(39,.own 39),(40,vvw (.agg [int x.kind,ints x.syms,.sl (Rx.gv x.kids)])),(41,vvw (.sl [(.agg [int x.kind,ints x.syms,.sl (Rx.gv x.kids)])])),(0,vvw (jM l)),(3,vvw (.pc [int (x).kind,ints (x).syms,.sl (Rx.gv (x).kids)] 0)),(5,vvw (int k)),(6,vvv)] mixed adi adi adi J adi (fun t d h=>h) J ?_ ?_ ?_ ?_ ?_
 ·intro i hi;rcases(by omega:i=0∨i=1∨i=2∨i=3∨i=4∨i=5∨i=6) with rfl|rfl|rfl|rfl|rfl|rfl|rfl<;>exact⟨_,_,rfl,rfl⟩
 ·intro i o t d hi hia ho hd hG hn;rcases(by omega:i=0∨i=1∨i=2∨i=3∨i=5∨i=6) with rfl|rfl|rfl|rfl|rfl|rfl
  ·injection (show some _=some o from ho) with ho;subst ho;injection (show some _=some t from hd) with hd;subst hd;injection (show some _=some d from hG) with hG;subst hG;exact cO J J
  ·injection (show some _=some o from ho) with ho;subst ho;injection (show some _=some t from hd) with hd;subst hd;injection (show some _=some d from hG) with hG;subst hG;exact cO J J
  ·injection (show some _=some o from ho) with ho;subst ho;injection (show some _=some t from hd) with hd;subst hd;injection (show some _=some d from hG) with hG;subst hG;exact cO J J
  ·injection (show some _=some o from ho) with ho;subst ho;injection (show some _=some t from hd) with hd;subst hd;injection (show some _=some d from hG) with hG;subst hG;exact fq (f:=rx) (l:=l) (j:=(k:Int)) J Tryz.underlying85 bY J J adh (fun _=>rfl)
  ·injection (show some _=some o from ho) with ho;subst ho;injection (show some _=some t from hd) with hd;subst hd;injection (show some _=some d from hG) with hG;subst hG;exact aF (cs:=[int x.kind,ints x.syms,.sl (Rx.gv x.kids)]) (off:=0) J je bY J (aaz J)
  ·injection (show some _=some o from ho) with ho;subst ho;injection (show some _=some t from hd) with hd;subst hd;injection (show some _=some d from hG) with hG;subst hG;exact eF J Tryz.underlying85 jz J J J J ae
 ·intro i o t d hi hia ho hd hG hn;rcases(by omega:i=0∨i=1∨i=2∨i=3∨i=5∨i=6) with rfl|rfl|rfl|rfl|rfl|rfl
  ·exact absurd hn adj
  ·exact absurd hn adj
  ·exact absurd hn adj
  ·exact absurd hn adj
  ·injection (show some _=some o from ho) with ho;subst ho;injection (show some _=some t from hd) with hd;subst hd;injection (show some _=some d from hG) with hG;subst hG;exact aF (cs:=[int x.kind,ints x.syms,.sl (Rx.gv x.kids)]) (off:=0) J je bY J (aaz J)
  ·injection (show some _=some o from ho) with ho;subst ho;injection (show some _=some t from hd) with hd;subst hd;injection (show some _=some d from hG) with hG;subst hG;exact eF J Tryz.underlying85 jz J J J J ae
 ·intro o X ho eC dv cZ;have HW:35∈looks _ o→X.lookup 35=some (vvv):=fun h=>(cZ 35 h).trans rfl
  have HX:38∈looks _ o→X.lookup 38=some (vvw (jM (l.take k))):=fun h=>(cZ 38 h).trans rfl
  injection (show some _=some o from ho) with ho';obtain⟨s',g1,g2⟩:=s8 (o:=o) (f:=rx) (l:=l.take k) (n:=48) (X:=X) (t:=39) (u:=35) (v:=38) (by rw[←ho'];rfl) (by rw[←ho'];rfl) rfl eC Tryz.underlying85 jz (HW (by rw[←ho'];decide)) (HX (by rw[←ho'];decide)) (fun _=>rfl) (by rw[aaA,aaO];omega) (by rw[aaA,aaO];omega) (fun t' d h hne=>fK (by rfl) (dv t' d h) hne) rfl ae;exact⟨39,_,s',by rw[←ho'];rfl,rfl,g1,g2⟩
 refine bM (n:=2) adi ?_;refine aH (i:=7) adi J J (step_append J J J J Tryz.underlying85 jz J J ae (cA J (bO (by rfl))) (by simp only[aaM,aaA,aaO,aaX,aaL,aaE];omega) (by simp only[aaM,aaA,aaO,aaX,aaL,aaE];omega)) ?_;refine xe 8 ?_;refine bf adi ?_;refine hZ [6] [43,44,45] [39] ?_;refine wZ [0,5000] ?_;refine oS J (step_append J J J J Tryz.underlying85 jz J J ae (dX (f:=rx) (l:=l.drop k) J (fun _=>rfl)) (by simp only[aaM,aaA,aaO,aaX,aaL,aaE];omega) (by simp only[aaM,aaA,aaO,aaX,aaL,aaE];omega)) J ?_;refine ko 48 [(47,_)] [] ae J ⟨.inr ⟨_,_,rfl,rfl,rfl⟩,trivial⟩ trivial ?_;refine GM [8004] ?_;rotate_left;refine wA [18] [0,3,5,6] [] ?_;refine kp (n:=48) (o2:=[(39,.arr 87 ((l.take k).map rx))]) 4 7 [(35,vvv),(36,vvw (jM l)),(37,vvw (int k)),(38,vvw (jM (l.take k))),(39,.own 39),(40,vvw (.agg [int x.kind,ints x.syms,.sl (Rx.gv x.kids)])),(41,vvw (.sl [(.agg [int x.kind,ints x.syms,.sl (Rx.gv x.kids)])])),(0,vvw (jM l)),(3,vvw (.pc [int (x).kind,ints (x).syms,.sl (Rx.gv (x).kids)] 0)),(5,vvw (int k)),(6,vvv)] mixed adi adi adi J adi (fun t d h=>h) J ?_ ?_ ?_ ?_ ?_
 ·intro i hi;rcases(by omega:i=0∨i=1∨i=2∨i=3∨i=4∨i=5∨i=6) with rfl|rfl|rfl|rfl|rfl|rfl|rfl<;>exact⟨_,_,rfl,rfl⟩
 ·intro i o t d hi hia ho hd hG hn;rcases(by omega:i=0∨i=1∨i=2∨i=3∨i=5∨i=6) with rfl|rfl|rfl|rfl|rfl|rfl
  ·injection (show some _=some o from ho) with ho;subst ho;injection (show some _=some t from hd) with hd;subst hd;injection (show some _=some d from hG) with hG;subst hG;exact cO J J
  ·injection (show some _=some o from ho) with ho;subst ho;injection (show some _=some t from hd) with hd;subst hd;injection (show some _=some d from hG) with hG;subst hG;exact cO J J
  ·injection (show some _=some o from ho) with ho;subst ho;injection (show some _=some t from hd) with hd;subst hd;injection (show some _=some d from hG) with hG;subst hG;exact cO J J
  ·injection (show some _=some o from ho) with ho;subst ho;injection (show some _=some t from hd) with hd;subst hd;injection (show some _=some d from hG) with hG;subst hG;exact fq (f:=rx) (l:=l) (j:=(k:Int)) J Tryz.underlying85 bY J J adh (fun _=>rfl)
  ·injection (show some _=some o from ho) with ho;subst ho;injection (show some _=some t from hd) with hd;subst hd;injection (show some _=some d from hG) with hG;subst hG;exact aF (cs:=[int x.kind,ints x.syms,.sl (Rx.gv x.kids)]) (off:=0) J je bY J (aaz J)
  ·injection (show some _=some o from ho) with ho;subst ho;injection (show some _=some t from hd) with hd;subst hd;injection (show some _=some d from hG) with hG;subst hG;exact eF J Tryz.underlying85 jz J J J J ae
 ·intro i o t d hi hia ho hd hG hn;rcases(by omega:i=0∨i=1∨i=2∨i=3∨i=5∨i=6) with rfl|rfl|rfl|rfl|rfl|rfl
  ·exact absurd hn adj
  ·exact absurd hn adj
  ·exact absurd hn adj
  ·exact absurd hn adj
  ·injection (show some _=some o from ho) with ho;subst ho;injection (show some _=some t from hd) with hd;subst hd;injection (show some _=some d from hG) with hG;subst hG;exact aF (cs:=[int x.kind,ints x.syms,.sl (Rx.gv x.kids)]) (off:=0) J je bY J (aaz J)
  ·injection (show some _=some o from ho) with ho;subst ho;injection (show some _=some t from hd) with hd;subst hd;injection (show some _=some d from hG) with hG;subst hG;exact eF J Tryz.underlying85 jz J J J J ae
 ·intro o X ho eC dv cZ;have HW:35∈looks _ o→X.lookup 35=some (vvv):=fun h=>(cZ 35 h).trans rfl
  have HX:38∈looks _ o→X.lookup 38=some (vvw (jM (l.take k))):=fun h=>(cZ 38 h).trans rfl
  injection (show some _=some o from ho) with ho';obtain⟨s',g1,g2⟩:=s8 (o:=o) (f:=rx) (l:=l.take k) (n:=48) (X:=X) (t:=39) (u:=35) (v:=38) (by rw[←ho'];rfl) (by rw[←ho'];rfl) rfl eC Tryz.underlying85 jz (HW (by rw[←ho'];decide)) (HX (by rw[←ho'];decide)) (fun _=>rfl) (by rw[aaA,aaO];omega) (by rw[aaA,aaO];omega) (fun t' d h hne=>fK (by rfl) (dv t' d h) hne) rfl ae;exact⟨39,_,s',by rw[←ho'];rfl,rfl,g1,g2⟩
 refine bM (n:=2) adi ?_;refine aH (i:=7) adi J J (step_append J J J J Tryz.underlying85 jz J J ae (cA J (bO (by rfl))) (by simp only[aaM,aaA,aaO,aaX,aaL,aaE];omega) (by simp only[aaM,aaA,aaO,aaX,aaL,aaE];omega)) ?_;refine xe 8 ?_;refine bf adi ?_;refine hZ [6] [43,44,45] [39] ?_;refine wZ [0,5000] ?_;refine oS J (step_append J J J J Tryz.underlying85 jz J J ae (dX (f:=rx) (l:=l.drop k) J (fun _=>rfl)) (by simp only[aaM,aaA,aaO,aaX,aaL,aaE];omega) (by simp only[aaM,aaA,aaO,aaX,aaL,aaE];omega)) J ?_;refine ko 48 [(47,_)] [] ae J ⟨.inr ⟨_,_,rfl,rfl,rfl⟩,trivial⟩ trivial ?_;refine GM [8004] ?_;rotate_left
 all_goals
  first|(exfalso;omega)|(rw[KA (i:=k) adh ax adh];first|done|rfl)|(rw[N9 (i:=k) adh ax (fun _=>by omega) (fun _=>by omega)];show _=RV.p (.sl ((l.take k++[x]++l.drop k).map rx));rw[aaK,aaK];rfl)
end Go.Proofs.YtlapahnodhmcpaaGreat
