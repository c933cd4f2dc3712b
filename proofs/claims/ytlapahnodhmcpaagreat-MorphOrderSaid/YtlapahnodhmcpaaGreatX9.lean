/-
  Part of the proof.
-/
import Derived.Test.YtlapahnodhmcpaaGreatX8
set_option linter.unusedVariables false
set_option linter.unusedSectionVars false
set_option linter.unusedSimpArgs false
set_option maxRecDepth 100000
set_option maxHeartbeats 40000000
namespace Go.Proofs.YtlapahnodhmcpaaGreat
open Go.Am Go.Wb
abbrev Uy:=dT 2 Tryz.func48
theorem Bl {c:Nat}:au Tryz.prog 48 [.sc (.slice none 0 c)] (.fresh 3 []):=by
 refine cF Uy fun w0 M0 ae=>?_
 refine db [1002,6] [0,3] [] ?_;refine oP J (qD J Tryz.underlying22 J J) ?_;refine wZ [1005,8004] ?_;rfl
theorem Hs {a:Addr}{c:Nat}:au Tryz.prog 48 [.sc (.slice (some a) 0 c)] (.fresh 3 []):=by
 refine cF Uy fun w0 M0 ae=>?_
 refine db [1002,6] [0,3] [] ?_;refine oP J (qD J Tryz.underlying22 J J) ?_;refine wA [1007,1] [5,6] [5] ?_;refine oS J (step_append J J J J Tryz.underlying22 Vi J J ae (Ib J) adj adj) J ?_;refine wZ [8004] ?_;rfl
theorem Ht {l:List Int}(hl:l.length≤1099511627776)(h0:0<l.length):au Tryz.prog 48 [ints l] (.fresh 3 (l.map int)):=by
 refine cF Uy fun w0 M0 ae=>?_
 refine db [1002,6] [0,3] [] ?_;refine oP J (sZ J Tryz.underlying22 J J (by simp only[aaA];exact h0)) ?_;refine wA [1007,1] [5,6] [5] ?_;refine oS J (step_append J J J J Tryz.underlying22 Vi J J ae (sX J (fun _=>⟨_,rfl⟩)) (by simp only[aaA,aaL];omega) (by simp only[aaA,aaL];omega)) J ?_;refine wZ [8004] ?_;rfl
theorem ft {l:List Int}(hl:l.length≤1099511627776):au Tryz.prog 48 [ints l] (.fresh 3 (l.map int)):=by
 rcases abZ l.length with h|h
 · have hl0 : l = [] := aa4 h
   subst hl0;refine⟨(Bl (c:=0)).1,fun w vs hv hr=>?_⟩
   match vs,hv with
   | [v], _ =>
     have h0:=hr 0 _ rfl;simp only[List.getD_cons_zero] at h0;generalize hq:ints []=q at h0;cases h0 with
     | sl a n cap xs k cv hn hc hk hb hl2 hr2 =>
       simp only[ints,abW,AV.sl.injEq] at hq;subst hq;simp only[aaL] at hn;subst hn;have one:∀z:Value,z.oneCell'=true→∀(j:Nat) d,[AV.sc z][j]?=some d→bL w (fun _=>False) ([z].getD j undef) d:=fun z hz j d hd=>by
         match j with
         | 0=>simp at hd;subst hd;exact .sc _ hz
         | j+1=>simp at hd
       cases a with
       | none=>exact(Bl (c:=cap)).2 w [.slice none 0 cap] rfl (one _ rfl)
       | some ad=>exact(Hs (a:=ad) (c:=cap)).2 w [.slice (some ad) 0 cap] rfl (one _ rfl)
     | _=>cases hq
 · exact Ht hl h
theorem W5:ug Tryz.prog 236 Tryz.f236.ntmps 2 87 3 (Tryz.f236.body.getD .skip):=⟨Tryz.f236,Tryz.func236,rfl,rfl,rfl,adi,je,bY⟩
theorem Bm {x:Rx}(h4:x.kind=4→0<x.kids.length):aV Tryz.prog 236 [rx x] (.p (rx (lC x))):=by
 rw[fy x];refine bh W5 (aaz J) fun w0 M0 ae=>?_
 refine pO [1002,3018] [1,2,4,5] [1,2] ?_ ?_<;>intro h1;refine wZ [13] ?_;refine ao J ?_;rotate_left;refine wS [3006] [1,2,4,5] [1,2] ?_ ?_<;>intro h2;refine wZ [10] ?_;refine ao J ?_;rotate_left;refine wS [3007] [1,2,9] [1,2] ?_ ?_<;>intro h3;refine wZ [10] ?_;refine ao J ?_;rotate_left;refine wS [4011] [1,2,15] [1,2] ?_ ?_<;>intro h4';refine wS [2,3006] [1,2,22] [1,2] ?_ ?_<;>intro h5;refine wS [5,8,3003] [1,2,30] [1,2] ?_ ?_<;>intro h6;refine wZ [4,7,5] ?_;refine ao J ?_;rotate_left;refine wZ [6,5] ?_;refine ao J ?_;rotate_left;refine wZ [6,5] ?_;refine ao J ?_;rotate_left;refine wZ [15,5] ?_;refine ao J ?_;rotate_left
 all_goals
  try simp only[Int.toNat_zero,Int.toNat_one,aaX] at *
  first
   | (exfalso;omega)
   | (rw[wM adh];rfl)
   | (rw[wN adh,fy x])
   | (rw[oR adh adh,qO adh,mT,Iq,fy x];rfl)
   | (rw[oR adh adh,wO adh adh,mT,←ya];rfl)
   | (rw[oR adh adh,wQ adh adh,mT,Iq,TD];rfl)
theorem S1:ug Tryz.prog 200 Tryz.f200.ntmps 4 87 3 (Tryz.f200.body.getD .skip):=⟨Tryz.f200,Tryz.func200,rfl,rfl,rfl,adi,je,bY⟩
theorem yI (t:Bool):∀(m:Nat)(r:Rx),r.size≤m→m≤137438953472→aT r=true→au Tryz.prog 200 [rx r,bool t] (.p (rx (aN t r))):=by
 refine fun m=>Nat.strongRecOn m fun m ih=>?_
 intro r hm hmm hv;have hl:=ek r;have hsy:=eJ r;have hb:=vG t r.kids;have hse:=size_eq r;have hK:∀x∈r.kids.map (aN t),Nf x:=fun x hx=>by
  obtain⟨y,hy,rfl⟩:=aa7.1 hx;exact pY t y (ir hv y hy)
 have h5l:r.kind=5→0<(r.kids.map (aN t)).length:=fun h=>by rw[aaA,(lL hv h).2];decide
 have kb:∀i,i<r.kids.length→au Tryz.prog 200 [rx (r.kids.getD i default),bool t] (.p (rx (aN t (r.kids.getD i default)))):=fun i hi =>
  ih _ (abj (il hi) hm) _ (aaD _) (by have:=il hi;omega) (ir hv _ (aS hi))
 rw[fy r];refine eH S1 (aaz J) fun w0 M0 ae=>?_
 refine db [2,1005,7,4] [1,2,4,5,9,10,11] [4,5] ?_;refine lr (fun zl zo zm zs=>∃i:Nat,zm=r.kids.length-i∧(i≤r.kids.length)∧zs=eV 47 [(5,.own 5),(11,vvw (int i))] zl [(5,.arr 87 (((r.kids.take i).map (aN t)).map rx))] zo) ?_ ?_;exact⟨_,0,rfl,aaG _,rfl⟩;rintro zm zs ⟨i,rfl,aY,rfl⟩;refine wS [3006] [1,2,4,5,9,10,11,12] [4,5] ?_ ?_<;>intro h1;refine wA [7,9] [1,2,4,9,10,11,15,16,17] [4,5] ?_;refine oC J J J J (kb _ adh) ?_;refine wA [0,1000,5,9002] [1,2,4,5,9,10,11] [4,5] ?_;exact⟨_,⟨i+1,rfl,adh,by rw[bF adh,aaK,aaK];rfl⟩,adh⟩;refine wA [8] [1,2,4,5] [4,5] ?_;rw[show r.kids.take i=r.kids from aa2 adh];refine wS [3012] [1,2,4,5,23,24] [4,5] ?_ ?_<;>intro h2;refine wS [3007] [4,5,26] [4,5] ?_ ?_<;>intro h3;refine wA [3] [4,5,27] [4,5] ?_;refine oS J (A2 (cells:=Yk) SU J J J J J J bY adj (by rw[aaA];omega) ae) J ?_;refine wA [3] [4,5] [4,5] ?_;refine aD 47 [(4,_),(5,_)] [(4,_)] ae J ⟨.inl J,.inr ⟨_,_,rfl,rfl,rfl⟩,trivial⟩ ⟨rfl,trivial⟩ ?_;refine gV [2] [4,29] [4] ?_;refine oN J J J J J (by first|exact tI (l:=(r.kids.map (aN t)).reverse) (by rw[qQ];omega)|exact tI (l:=r.kids.map (aN t)) adh) ?_;refine wZ [6] ?_;refine ao J ?_;rotate_left;refine wA [4] [4,5] [4,5] ?_;refine aD 47 [(4,_),(5,_)] [(4,_)] ae J ⟨.inl J,.inr ⟨_,_,rfl,rfl,rfl⟩,trivial⟩ ⟨rfl,trivial⟩ ?_;refine gV [2] [4,29] [4] ?_;refine oN J J J J J (by first|exact tI (l:=(r.kids.map (aN t)).reverse) (by rw[qQ];omega)|exact tI (l:=r.kids.map (aN t)) adh) ?_;refine wZ [6] ?_;refine ao J ?_;rotate_left;refine wS [3007] [2,4,5,23,31] [4,5] ?_ ?_<;>intro h4;refine wA [2] [4,5] [4,5] ?_;refine aD 47 [(4,_),(5,_)] [(4,_)] ae J ⟨.inl J,.inr ⟨_,_,rfl,rfl,rfl⟩,trivial⟩ ⟨rfl,trivial⟩ ?_;refine gV [2] [4,33] [4] ?_;refine oN J J J J J (OD (l:=r.kids.map (aN t)) adh) ?_;refine wZ [6] ?_;refine ao J ?_;rotate_left;refine wS [3007] [2,4,5,35] [4,5] ?_ ?_<;>intro h5;refine wA [2] [4,5] [4,5] ?_;refine aD 47 [(4,_),(5,_)] [(4,_)] ae J ⟨.inl J,.inr ⟨_,_,rfl,rfl,rfl⟩,trivial⟩ ⟨rfl,trivial⟩ ?_;refine gV [2] [4,37] [4] ?_;refine oP J (dh J Tryz.underlying85 bY J J (by have:=h5l adh;omega) (fun _=>rfl)) ?_;refine wA [1] [4,39] [4] ?_;refine oN J J J J J (Bm (x:=(r.kids.map (aN t)).getD 0 default) (fun h4=>by have:=((hK _ (aS (h5l adh))).k4 h4).2.1;omega)) ?_;refine wZ [6] ?_;refine ao J ?_;rotate_left;refine wA [2005,4] [4,42,44] [4] ?_;refine oE J J J J J J (ft adh) ?_;refine wA [1] [4,46] [4] ?_;refine b8 adi ?_;refine cB J (aW J J J bY J J J J adj J J ae) ?_;refine dN ?_;refine Dn [2] ?_;refine ao J ?_;rotate_left
 all_goals
  first
   | (rw[AO adh adk];rfl)
   | (rw[AP adh adk];rfl)
   | (rw[kY adh];rfl)
   | (rw[kZ adh];rfl)
   | (rw[jY adh adh adh,mT];rfl)
theorem S2:ug Tryz.prog 146 Tryz.f146.ntmps 2 87 3 (Tryz.f146.body.getD .skip):=⟨Tryz.f146,Tryz.func146,rfl,rfl,rfl,adi,je,bY⟩
variable{r:Rx}
theorem E7 (h:r.size≤137438953472):au Tryz.prog 146 [rx r] (.p (rx (if aT r then aN false r else dO))):=by
 refine eH S2 (aaz J) fun w0 M0 ae=>?_
 refine db [2,7] [1,2,3] [2] ?_;refine oC J J J J (mA _ _ (aaD _) adh) ?_;refine wS [3003] [1,2,5] [2] ?_ ?_<;>intro h1;refine wZ [9] ?_;refine ao J ?_;rotate_left;refine wA [6] [2,7] [2] ?_;refine oC J J J J (yI _ _ _ (aaD _) adh (by simpa using h1)) ?_;refine wZ [4] ?_;refine ao J ?_;rotate_left
 all_goals
  first|(rw[if_pos adk];rfl)|(rw[if_neg (by rw[h1];decide)];rfl)
theorem W6:ug Tryz.prog 186 Tryz.f186.ntmps 2 87 3 (Tryz.f186.body.getD .skip):=⟨Tryz.f186,Tryz.func186,rfl,rfl,rfl,adi,je,bY⟩
theorem OE (h:r.size≤137438953472):au Tryz.prog 186 [rx r] (.p (rx (if aT r then aN true r else dO))):=by
 refine eH W6 (aaz J) fun w0 M0 ae=>?_
 refine db [2,7] [1,2,3] [2] ?_;refine oC J J J J (mA _ _ (aaD _) adh) ?_;refine wS [3003] [1,2,5] [2] ?_ ?_<;>intro h1;refine wZ [9] ?_;refine ao J ?_;rotate_left;refine wA [6] [2,7] [2] ?_;refine oC J J J J (yI _ _ _ (aaD _) adh (by simpa using h1)) ?_;refine wZ [4] ?_;refine ao J ?_;rotate_left
 all_goals
  first|(rw[if_pos adk];rfl)|(rw[if_neg (by rw[h1];decide)];rfl)
abbrev W7:=dT 2 Tryz.func256
theorem E8 {x:Int}:au Tryz.prog 256 [int x] (.p (bool false)):=by
 refine cF W7 fun w0 M0 ae=>?_
 refine AD [8014] ?_;rw[decide_eq_true rfl];rfl
abbrev W8:=dT 4 Tryz.func255
theorem KV {x y:Int}:au Tryz.prog 255 [int x,int y] (.p (bool (decide (x<y)))):=by
 refine cF W8 fun w0 M0 ae=>?_
 refine db [8] [0,1,5] [] ?_;refine oP J (gn (b':=false) J J J (ss) ae (rfl)) ?_;refine wZ [8014] ?_;rfl
theorem W9:Gd Tryz.prog 237 Tryz.f237.ntmps 4 5 (Tryz.f237.body.getD .skip):=⟨Tryz.f237,Tryz.func237,rfl,rfl,rfl,adi⟩
theorem Rb {s:List Int}{a:Int}(hs:pT Ge s)(hl:s.length≤1099511627776):au Tryz.prog 237 [ints s,int a] (.p (.tup [int (lbI a s),bool (decide (a∈s))])):=by
 refine pE W9 (aaz J) fun w0 M0 ae=>?_
 refine db [9,12] [0,1,6,7,8] [] ?_;refine lp (fun zm zs=>∃i j:Nat,zm=j-i∧(i≤j)∧(j≤s.length)∧(∀k,k<i→s.getD k default<a)∧(∀k,j≤k→k<s.length→a≤s.getD k default)∧zs=⟨54,[(0,vvz (ints s)),(1,vvz (int a)),(6,vvw (int s.length)),(7,vvw (int i)),(8,vvw (int j))],[]⟩) ?_ ?_;exact⟨_,0,s.length,rfl,aaG _,aaD _,fun k hk=>absurd hk adh,fun k hk hk2=>absurd hk adh,rfl⟩;rintro zm zs ⟨i,j,rfl,aY,ax,c7,I3,rfl⟩;refine wS [3008] [0,1,6,7,8,15] [] ?_ ?_<;>intro h1;refine wZ [8,5000] ?_;refine oP J (nE J Tryz.underlying3 Tryz.underlying154 J) ?_;refine wA [0] [0,1,6,7,8,19] [] ?_;refine oP J (Ma J J J adh) ?_;refine oP J (c9 (a':=((i+j) / 2:Nat)) (nE J Tryz.underlying154 Tryz.underlying3 J) (TI adh)) ?_;refine wA [7,2] [0,1,6,7,8,9,25,26] [] ?_;refine oC J J J J (KV) ?_;refine wS [3002] [0,1,6,7,8,9,27] [] ?_ ?_<;>intro h2;refine wA [3,9003] [0,1,6,7,8] [] ?_;refine⟨_,⟨(i+j) / 2+1,j,rfl,adh,ax,fun k hk=>?_,I3,by rw[show(((i+j) / 2:Nat):Int)+1=(((i+j) / 2+1:Nat):Int) by omega]⟩,adh⟩;rcases aa9 k ((i+j) / 2) with q|q
 ·have h5:=jI hs q adh;have:=of_decide_eq_true h5.1;omega
 ·rw[show k=(i+j) / 2 by omega];assumption
 refine wA [9006] [0,1,6,7,8] [] ?_;refine⟨_,⟨i,(i+j) / 2,rfl,adh,adh,c7,fun k hk hk2=>?_,rfl⟩,adh⟩;rcases Nat.eq_or_lt_of_le hk with q|q
 ·rw[←q];omega
 ·have h5:=jI hs q hk2;have:=of_decide_eq_true h5.1;omega
 refine wS [4013] [0,1,7,31,35] [] ?_ ?_<;>intro h3';refine wS [2,4004] [0,1,7,31,35,42] [] ?_ ?_<;>intro h4';refine wZ [16] ?_;refine b9 J J ?_;rotate_left;refine wA [2,1] [1,31,35,42,46] [] ?_;refine oP J (gn (b':=false) J J J (E8) ae (rfl)) ?_;refine wZ [11] ?_;refine b9 J J ?_;rotate_left;refine wZ [23] ?_;refine b9 J J ?_;rotate_left
 all_goals
  have hij:i=j:=adh;refine⟨?_,?_⟩
  ·exact congrArg (fun n:Nat=>int n) (VL adh c7 fun h=>I3 _ adh h)
  ·first
   | (rw[decide_eq_true (p:=a∈s) (TG (i:=i) adh adk)];first|done|rfl|(simp_all;done))
   | (rw[decide_eq_false (p:=a∈s) (VM hs c7 (fun h=>I3 _ adh h) (fun h=>by first|assumption|omega))];first|done|rfl|(simp_all;done))
theorem Xa:ug Tryz.prog 202 Tryz.f202.ntmps 4 87 3 (Tryz.f202.body.getD .skip):=⟨Tryz.f202,Tryz.func202,rfl,rfl,rfl,adi,je,bY⟩
theorem eD (h:r.size≤137438953472):au Tryz.prog 146 [rx r] (.p (rx (dw r))):=E7 h
theorem KW (h:r.size≤137438953472):au Tryz.prog 186 [rx r] (.p (rx (eB r))):=OE h
theorem Xb:ug Tryz.prog 150 Tryz.f150.ntmps 4 87 3 (Tryz.f150.body.getD .skip):=⟨Tryz.f150,Tryz.func150,rfl,rfl,rfl,adi,je,bY⟩
abbrev Xc:=dT 4 Tryz.func183
theorem nj:∀ (m:Nat)(r:Rx),r.size≤m→wd r≤1099511627776→au Tryz.prog 203 [rx r] (.p (bool (cT r))):=by
 intro m
 induction m with
 | zero=>intro a hr _;have:=size_pos a;omega
 | succ m ih =>
 intro r hr hm;have hkl:=(gW.1 hm).1.2;have hsl:=(gW.1 hm).1.1;rw[fy r];refine cF SQ fun w0 M0 ae=>?_
 refine pO [2,3018] [1,4,5] [] ?_ ?_<;>intro h1;refine wZ [8012] ?_;rotate_left;refine wS [3006] [1,4,5] [] ?_ ?_<;>intro h2;refine wZ [8009] ?_;rotate_left;refine wS [3007] [1,4,8] [] ?_ ?_<;>intro h3;refine wA [5] [11] [] ?_;refine oC J J J J (gP (p:=fun x=>!cT x) adh (fun x hx=>vR (ih _ (abI (abj (dp hx) hr)) (iy hm hx)))) ?_;refine wZ [8007] ?_;rotate_left;refine wS [3007] [1,14] [] ?_ ?_<;>intro h4;refine wA [5] [17] [] ?_;refine oC J J J J (gP (p:=cT) adh (fun x hx=>(ih _ (abI (abj (dp hx) hr)) (iy hm hx)))) ?_;refine wZ [8006] ?_;rotate_left;refine wZ [8010] ?_;rotate_left
 all_goals
  rw[qH];first|(rw[if_pos adh,pQ];done)|(rw[if_neg adh,if_pos adh];done)|(rw[if_neg adh,if_neg adh];simp_all;done)|(rw[if_neg adh,if_neg adh,decide_eq_false adh];done)
theorem rK:∀ (m:Nat)(a b:Rx),a.size≤m→wd a≤1099511627776→wd b≤1099511627776→au Tryz.prog 252 [rx a,rx b] (.p (int (dt a b))):=by
 intro m
 induction m with
 | zero=>intro a b hr _ _;have:=size_pos a;omega
 | succ m ih =>
 intro a b ha hwa hwb;have hka:=(gW.1 hwa).1.2;have hsa:=(gW.1 hwa).1.1;have hkb:=(gW.1 hwb).1.2;have hsb:=(gW.1 hwb).1.1;rw[fy a,fy b];refine cF SS fun w0 M0 ae=>?_
 refine db [2,0,2004,4] [2,3,6,8] [] ?_;refine oE J J J J J J (yH) ?_;refine wA [4] [2,3,9,11,13] [] ?_;refine oE J J J J J J (nz adh adh) ?_;refine wA [4] [9,14,16,18] [] ?_;refine oE J J J J J J (Bk adh adh (fun x hx y hy=>ih x y (abI (abj (dp hx) ha)) (iy hwa hx) (iy hwb hy))) ?_;refine wZ [6000,5000] ?_;refine oE J J J J J J (I2 (l:=[bS a.kind b.kind,bC a.syms b.syms,cL a.kids b.kids]) (by simp)) ?_;refine wZ [8004] ?_;rw[Im]
variable{l:List Rx}
theorem KX (hl:l.length≤1099511627776)(hs:∀i,i<l.length→(ez (l.take i)).length+(l.getD i default).kids.length+1≤1099511627776):aV Tryz.prog 234 [jM l] (.p (rx (c4 l))):=by
 refine bh S0 (aaz J) fun w0 M0 ae=>?_
 refine db [1007,6,4] [2,3,6,7,8] [2,3] ?_;refine lr (fun zl zo zm zs=>∃i:Nat,zm=l.length-i∧(i≤l.length)∧(∀j,j<i→(l.getD j default).kind≠0)∧zs=eV 42 [(3,.own 3),(8,vvw (int i))] zl [(3,.arr 87 ((ez (l.take i)).map rx))] zo) ?_ ?_;exact⟨_,0,rfl,aaG _,fun j hj=>absurd hj adh,rfl⟩;rintro zm zs ⟨i,rfl,aY,ax,rfl⟩;have hroom:=hs i;refine wS [3006] [2,3,6,7,8,9] [2,3] ?_ ?_<;>intro h1;refine wS [7,3018] [2,3,5,6,7,8,13,18] [2,3,5] ?_ ?_<;>intro h2;refine wZ [14] ?_;refine ao J ?_;rotate_left;refine wS [3007] [2,3,5,6,7,8,13,21] [2,3,5] ?_ ?_<;>intro h3;refine wA [6,9002] [2,3,6,7,8] [2,3] ?_;rotate_left;refine wS [3007] [2,3,5,6,7,8,23] [2,3,5] ?_ ?_<;>intro h4;refine wA [1] [2,3,5,6,7,8] [2,3,5] ?_;have hr:=hroom adh;refine wA [4] [2,6,7,8,25,27] [2,3] ?_;refine oS J (step_append J J J J Tryz.underlying85 jz J J ae (w8 (l:=(l.getD i default).kids) J) (by first|(simp only[ll];omega)|omega) (by first|(simp only[ll];omega)|omega)) J ?_;refine wA [6,9002] [2,3,6,7,8] [2,3] ?_;rotate_left;refine wA [1] [2,3,5,6,7,8] [2,3,5] ?_;have hr:=hroom adh;refine wA [3,1000,6,9002] [2,3,6,7,8] [2,3] ?_;rotate_left;refine wS [10,3009] [2,3,31,32] [2,3] ?_ ?_<;>intro h5;refine wZ [10] ?_;refine ao J ?_;rotate_left;refine wS [3007] [2,3,35] [2,3] ?_ ?_<;>intro h6;refine wZ [4,0,6] ?_;refine ao J ?_;rotate_left;refine wA [5] [2,3] [2,3] ?_;refine aD 42 [(2,_),(3,_)] [(2,_)] ae J ⟨.inl J,.inr ⟨_,_,rfl,rfl,rfl⟩,trivial⟩ ⟨rfl,trivial⟩ ?_;refine oJ [7] ?_;refine ao J ?_;rotate_left
 all_goals first
  | (
    first|(rw[uz (i:=i) adh adh];rfl)|(rw[nM (fun j hj=>ax j adh)];rw[show ez l=ez (l.take i) by rw[aa2 adh]];first|(rw[GO adh];rfl)|(rw[GP adh];rfl)|(rw[sb adh adh,mT];rfl));done)
  | (
    exact⟨_,⟨i+1,rfl,adh,cc ax adh,by rw[uy adh];first|(rw[mi adh,abe];rfl)|(rw[iP adh,aaK];rfl)|(rw[ep adh adh,aaK];rfl)⟩,adh⟩;done)
variable{B:Nat}
theorem n3 (hB:B≤549755813000)(hl:l.length≤B)(h:(ez l).length≤B)(hw:∀x∈l,wd x≤B):aV Tryz.prog 234 [jM l] (.p (rx (c4 l))) :=
 KX adh fun i hi=>by have:=N4 h hw i hi;omega
theorem Hu {x y:Rx}(hx:wd x≤1099511627776)(hy:wd y≤1099511627776):au Tryz.prog 254 [rx x,rx y] (.p (bool (Ip x y))):=by
 refine cF SY fun w0 M0 ae=>?_
 refine db [2,0,7] [5,6] [] ?_;refine oC J J J J (rK _ _ _ (aaD _) hx hy) ?_;refine wZ [8005] ?_;rfl
theorem Bn (hB:B≤549755813000)(hl:l.length≤1099511627776)(ho:G6 B l):aV Tryz.prog 235 [jM l] (.p (rx (gZ l))):=by
 obtain⟨hS,Ms,hw⟩:=ho;have hMl:=N3 (dg l) (ee l);have Ra:∀z∈j8 (dg l) (ee l),wd z≤1099511627776:=fun z hz=>by have:=QI hS hw z hz;omega
 have hDl:(ef l).length≤1099511627776:=by
   have h1:=wL (eq:=Ip) (l:=jX (j8 (dg l) (ee l)));rw[qN] at h1;show(sJ _ _).length≤_;omega
 have W4:=qM (dg l);refine bh SZ (aaz J) fun w0 M0 ae=>?_
 refine db [17,5] [0,2,3,4,5] [2,3,4] ?_;refine bN 3 0 11 87 85 ae J J J J ?_;refine bN 4 0 10 3 22 ae J J J J ?_;refine gV [2,4] [2,3,4,5,11,12,13] [2,3,4,10,11] ?_;refine lr (fun zl zo zm zs=>∃i:Nat,zm=l.length-i∧(i≤l.length)∧zs=eV 81 [(13,vvw (int i))] zl [(10,.arr 3 ((df (aX (l.take i))).map int)),(11,.arr 87 ((fe (aX (l.take i))).map rx))] zo) ?_ ?_;exact⟨_,0,rfl,aaG _,rfl⟩;rintro zm zs ⟨i,rfl,aY,rfl⟩;have hb1:=QH l i;have hb5:=fun(h:i<l.length)=>(gW.1 (hw _ (aS h))).1
 refine wS [3006] [2,3,4,5,11,12,13,14] [2,3,4,10,11] ?_ ?_<;>intro h1;refine wS [7,3013] [2,3,4,5,7,11,12,13,19] [2,3,4,7,10,11] ?_ ?_<;>intro h2;refine wA [5] [2,3,4,5,11,12,13,20,21] [2,3,4,10,11] ?_;refine oS J (aR [(1000001,4),(1000002,3)] J J J J J J J (tH (x:=l.getD i default) (s:=df (aX (l.take i))) (k:=fe (aX (l.take i))) (by have:=hb5 adh;omega) adh) ⟨.inl J,.inl J,.inl J,trivial⟩ ⟨rfl,rfl,rfl,rfl,trivial⟩ J J J J J ae) J ?_;refine wA [7,9002] [2,3,4,5,11,12,13] [2,3,4,10,11] ?_;refine⟨_,⟨i+1,rfl,adh,?_⟩,adh⟩;rw[nO adh,jx adh,qK,qL];rfl;refine wA [6] [2,3,4,5,11,12,13,23] [2,3,4,7,10,11] ?_;refine oP J (E6 (aa J KK J J J)) ?_;refine wA [0,4] [2,3,4,5,11,12,13,24,25,26] [2,3,4,10,11] ?_;refine lp (fun zm zs=>∃j:Nat,zm=(l.getD i default).kids.length-j∧(j≤(l.getD i default).kids.length)∧zs=⟨81,[(2,.pbox 2 0),(3,.pbox 3 0),(4,.pbox 4 0),(5,.fn 249 [.bx 4,.bx 3]),(11,vvw (jM l)),(12,vvw (int l.length)),(13,vvw (int i)),(24,vvw (jM (l.getD i default).kids)),(25,vvw (int (l.getD i default).kids.length)),(26,vvw (int j))],[(2,.box 87 [vvw (.sc (.int .i64 0)),vvv,vvv]),(3,.box 85 [.own 11]),(4,.box 22 [.own 10]),(10,.arr 3 ((df (aX (l.take i)++(l.getD i default).kids.take j)).map int)),(11,.arr 87 ((fe (aX (l.take i)++(l.getD i default).kids.take j)).map rx))]⟩) ?_ ?_;refine⟨_,0,rfl,aaG _,?_⟩;rw[adg,abe];rfl;rintro zm zs ⟨j,rfl,gi,rfl⟩;have hc1:=N2 l (i:=i) adh adh j;have hc4:=fun(h:j<(l.getD i default).kids.length)=>(gW.1 (iy (hw _ (aS adh)) (aS h))).1
 have hc5:=hb5 adh;refine wS [3006] [2,3,4,5,11,12,13,24,25,26,27] [2,3,4,10,11] ?_ ?_<;>intro h3;refine wA [7,8] [2,3,4,5,11,12,13,24,25,26,30,31] [2,3,4,10,11] ?_;refine oS J (aR [(1000001,4),(1000002,3)] J J J J J J J (tH (x:=(l.getD i default).kids.getD j default) (s:=df (aX (l.take i)++(l.getD i default).kids.take j)) (k:=fe (aX (l.take i)++(l.getD i default).kids.take j)) (by have:=hc4 adh;omega) adh) ⟨.inl J,.inl J,.inl J,trivial⟩ ⟨rfl,rfl,rfl,rfl,trivial⟩ J J J J J ae) J ?_;refine wA [4,9002] [2,3,4,5,11,12,13,24,25,26] [2,3,4,10,11] ?_;refine⟨_,⟨j+1,rfl,adh,?_⟩,adh⟩;rw[AM adh,AN adh];rfl;refine wA [8,9002] [2,3,4,5,11,12,13] [2,3,4,10,11] ?_;refine⟨_,⟨i+1,rfl,adh,?_⟩,adh⟩;rw[nO adh,gS adh,show(l.getD i default).kids.take j=(l.getD i default).kids from aa2 adh];rfl;refine wA [6] [2,3,4] [2,3,4,10,11] ?_;refine ct (fun zs=>zs=⟨81,[(2,.pbox 2 0),(3,.pbox 3 0)],[(2,.box 87 [vvw (.sc (.int .i64 0)),vvv,vvv]),(3,.box 85 [.own 11]),(11,.arr 87 ((j8 (dg l) (ee l)).map rx))]⟩) ?_ ?_;refine wA [1] [2,3,4] [2,3,4,10,11] ?_;rw[show l.take i=l from aa2 adh];refine wS [2,3003] [2,3,4,37] [2,3,4,10,11] ?_ ?_<;>intro h4;refine wA [4] [2,3,4,38] [2,3,4,10,11] ?_;refine oS J (xJ OC J J J J J J w6 (by have h1:(df (aX l)).length≤B:=hS;omega) ae) J ?_;refine wA [2] [2,3,4] [2,3,4,10,11] ?_;rw[vE];refine kp (n:=81) (o2:=[(2,.box 87 [vvw (.sc (.int .i64 0)),vvv,vvv]),(3,.box 85 [.own 11]),(11,.arr 87 ((ee l).map rx))]) 2 6 [(40,.own 11),(41,.own 10),(42,vvw (ints (sJ PM (jH (dg l))))),(43,vvw (rx (.mk 2 (sJ PM (jH (dg l))) []))),(44,vvw (int (ee l).length)),(45,vvw (.sl [.agg [int 0,.sc (.slice none 0 0),.sc (.slice none 0 0)]])),(2,.pbox 2 0),(3,.pbox 3 0),(4,.pbox 4 0)] mixed adi adi adi J adi (fun t d h=>h) J ?_ ?_ ?_ ?_ ?_
 · intro i hi
   rcases(by omega:i=0∨i=1∨i=2∨i=3∨i=4∨i=5) with rfl|rfl|rfl|rfl|rfl|rfl<;>exact⟨_,_,rfl,rfl⟩
 · intro i o t d hi hia ho hd hG hn
   rcases(by omega:i=0∨i=1∨i=3∨i=4∨i=5) with rfl|rfl|rfl|rfl|rfl
   · injection (show some _ = some o from ho) with ho; subst ho; injection (show some _ = some t from hd) with hd; subst hd; injection (show some _ = some d from hG) with hG; subst hG
     exact aa J KK J J J
   · injection (show some _ = some o from ho) with ho; subst ho; injection (show some _ = some t from hd) with hd; subst hd; injection (show some _ = some d from hG) with hG; subst hG
     exact aa J KH J J J
   · exact absurd hn adj
   · injection (show some _ = some o from ho) with ho; subst ho; injection (show some _ = some t from hd) with hd; subst hd; injection (show some _ = some d from hG) with hG; subst hG
     exact lT J Tryz.underlying85 J
   · injection (show some _ = some o from ho) with ho; subst ho; injection (show some _ = some t from hd) with hd; subst hd; injection (show some _ = some d from hG) with hG; subst hG
     exact eF J Tryz.underlying85 jz J J J J ae
 · intro i o t d hi hia ho hd hG hn
   rcases(by omega:i=0∨i=1∨i=3∨i=4∨i=5) with rfl|rfl|rfl|rfl|rfl
   · injection (show some _ = some o from ho) with ho; subst ho; injection (show some _ = some t from hd) with hd; subst hd; injection (show some _ = some d from hG) with hG; subst hG
     exact aa J KK J J J
   · exact absurd hn adj
   · injection (show some _ = some o from ho) with ho; subst ho; injection (show some _ = some t from hd) with hd; subst hd; injection (show some _ = some d from hG) with hG; subst hG
     exact ar (aK J yA my J J J) J
   · injection (show some _ = some o from ho) with ho; subst ho; injection (show some _ = some t from hd) with hd; subst hd; injection (show some _ = some d from hG) with hG; subst hG
     exact lT J Tryz.underlying85 J
   · injection (show some _ = some o from ho) with ho; subst ho; injection (show some _ = some t from hd) with hd; subst hd; injection (show some _ = some d from hG) with hG; subst hG
     exact eF J Tryz.underlying85 jz J J J J ae
 · intro o X ho eC dv cZ
   have Ux:41∈looks _ o→X.lookup 41=some (.own 10):=fun h=>(cZ 41 h).trans rfl
   injection (show some _=some o from ho) with ho';obtain⟨s',g1,g2⟩:=DT (o:=o) (f:=122) (ats:=#[22]) (n:=81) (X:=X) (o1:=[(2,.box 87 [vvw (.sc (.int .i64 0)),vvv,vvv]),(3,.box 85 [.own 11]),(4,.box 22 [.own 10]),(10,.arr 3 ((jH (dg l)).map int)),(11,.arr 87 ((ee l).map rx))]) (o2:=[(2,.box 87 [vvw (.sc (.int .i64 0)),vvv,vvv]),(3,.box 85 [.own 11]),(11,.arr 87 ((ee l).map rx))]) (t:=42) (u:=41) (id:=10) (by rw[←ho'];rfl) (by rw[←ho'];rfl) rfl rfl (Ux (by rw[←ho'];decide)) eC rfl (o6 (l:=jH (dg l)) adh) (fun t' d h hne=>DV (u:=41) (by rfl) (dv t' d h) hne) rfl (JW.out (o1:=[(2,.box 87 [vvw (.sc (.int .i64 0)),vvv,vvv]),(3,.box 85 [.own 11]),(4,.box 22 [.own 10]),(10,.arr 3 ((jH (dg l)).map int)),(11,.arr 87 ((ee l).map rx))]) (o2:=[(2,.box 87 [vvw (.sc (.int .i64 0)),vvv,vvv]),(3,.box 85 [.own 11]),(11,.arr 87 ((ee l).map rx))]) ⟨⟨_,rfl,rfl⟩,⟨_,rfl,rfl⟩,⟨_,rfl,rfl⟩,trivial⟩) ae;exact⟨42,_,s',by rw[←ho'];rfl,rfl,g1,g2⟩
 refine bM (n:=4) adi ?_;refine xf 6 ?_;refine eU (i:=7) (j:=9) adi J J J J (aM J J (ah J Tryz.underlying85 bY J J J (by first|(simp only[ll];omega)|omega))) (aP J J J CG J J J J J ae) ?_ ?_;refine eU (i:=8) (j:=9) adi J J J J (aj J J J bY J J (iI rx (ee l) _) J J (.inl J) J (aaz J) ae) (aP J J J CG J J J J J ae) ?_ ?_;refine aH (i:=9) adi J J (aP J J J CG J J J J J ae) ?_;refine bf adi ?_;refine hZ [10000] [2,3] [2,3,11] ?_;rotate_left;refine aH (i:=8) adi J J (aj J J J bY J J (iI rx (ee l) _) J J (.inl J) J (aaz J) ae) ?_;refine bf adi ?_;refine hZ [10000] [2,3] [2,3,11] ?_;rotate_left;refine xe 7 ?_;refine aH (i:=8) adi J J (aj J J J bY J J (iI rx (ee l) _) J J (.inl J) J (aaz J) ae) ?_;refine bf adi ?_;refine hZ [10000] [2,3] [2,3,11] ?_;rotate_left;refine wA [10002] [2,3] [2,3,11] ?_;rw[M6 (by show ¬0<(df (aX l)).length;omega)];rfl;rintro zs ⟨rfl⟩;refine wA [3] [2,3,48] [2,3,11] ?_;refine oS J (yn (cells:=Yk) (cf:=dt) (p:=fun z=>wd z≤1099511627776) OB J J J J J J J bY adj Ra (fun a b ha hb=>rK _ a b (aaD _) ha hb) n0 (fun a _=>x4 a) (fun a b c _ _ _=>kx a b c) (fun a b _ _=>Ej) adh ae) J ?_;refine wA [3] [2,3] [2,3,11] ?_;rw[vD];refine wA [2] [2,3,50] [2,3,11] ?_;refine oS J (aR [(0,11)] J J J J J J J (rJ (eq:=Ip) (l:=jX (j8 (dg l) (ee l))) (by rw[qN];omega) (fun x hx y hy=>Hu (Ra _ (lW.1 hx)) (Ra _ (lW.1 hy)))) ⟨.inl J,.inl J,trivial⟩ ⟨rfl,trivial⟩ J J J J J ae) J ?_;refine ko 81 [(2,_),(3,_),(51,_)] [(2,_),(3,_)] ae J ⟨.inl J,.inl J,.inr ⟨_,_,rfl,rfl,rfl⟩,trivial⟩ ⟨rfl,rfl,trivial⟩ ?_;refine Yj [3] [2,3] [2,3] ?_;refine ct (fun zs=>zs=⟨81,[(2,.pbox 2 0),(3,.pbox 3 0)],[(2,.box 87 [vvw (.sc (.int .i64 0)),vvv,vvv]),(3,.box 85 [vvw (jM (j9 (ef l)))])]⟩) ?_ ?_;refine wS [3,4002] [2,3,55] [2,3] ?_ ?_<;>intro h5';refine wS [1,4005] [2,3,62] [2,3] ?_ ?_<;>intro h6';refine wZ [1,5000] ?_;refine oC J J J J (gP (p:=cT) (l:=(ef l).drop 1) (by simp;omega) (fun x hx=>nj _ _ (aaD _) (Ra _ (tk (abp hx))))) ?_;refine wS [3003] [2,3,66] [2,3] ?_ ?_<;>intro h7;refine wA [3,10002] [2,3] [2,3] ?_;rotate_left;refine wA [10002] [2,3] [2,3] ?_;rotate_left;refine wA [10008] [2,3] [2,3] ?_;rotate_left;refine wA [10015] [2,3] [2,3] ?_;rotate_left;rintro zs ⟨rfl⟩;refine wS [4,3009] [2,3,70,71] [2,3] ?_ ?_<;>intro h8;refine wZ [10] ?_;refine ao J ?_;rotate_left;refine wS [3007] [2,3,74] [2,3] ?_ ?_<;>intro h9;refine wZ [4,7] ?_;refine ao J ?_;rotate_left;refine wZ [12] ?_;refine ao J ?_;rotate_left
 all_goals first
  | (
    have h4u:0<(dg l).length:=by show 0<(df (aX l)).length;omega
    rw[M5 h4u,←xX (z:=.agg [int 0,.sc (.slice none 0 0),.sc (.slice none 0 0)])];rfl;done)
  | (
    first
      | (rw[x7 (k:=ef l) (by show 1<(sJ Ip (jX (j8 (dg l) (ee l)))).length;omega) h6' h7];rfl)
      | (rw[mj (k:=ef l) (fun q=>absurd q.1 (by show ¬1<(sJ Ip (jX (j8 (dg l) (ee l)))).length;omega))];rfl)
      | (rw[mj (k:=ef l) (fun q=>h6' q.2.1)];rfl)
      | (rw[mj (k:=ef l) (fun q=>by rw[q.2.2] at h7;cases h7)];rfl);done)
  | (
    first
      | (rw[show gZ l=dO from GR (k:=j9 (ef l)) adh];rfl)
      | (rw[show gZ l=_ from Cj (k:=j9 (ef l)) adh];rfl)
      | (rw[show gZ l=_ from x6 (k:=j9 (ef l)) adh adh,mT];rfl);done)
theorem tJ (hB:B≤274877906000)(a:Int):∀(m:Nat)(r:Rx),r.size≤m→Nf r→wd r≤B→yr B a r→aV Tryz.prog 202 [rx r,int a] (.p (rx (dR a r))):=by
 refine fun m=>Nat.strongRecOn m fun m ih=>?_
 intro r hm hn hw hd;have hv:=nT hn;have hl:=(gW.1 hw).1.2;have hsy:=(gW.1 hw).1.1;have h5l:r.kind=5→0<r.kids.length:=fun h=>by rw[(lL hv h).2];decide
 have hset:r.kind=2→jV r.syms=true:=fun h=>by rw[mh h,aaZ] at hv;exact hv.2
 have hkw:∀i,i<r.kids.length→wd (r.kids.getD i default)≤B:=fun i hi=>iy hw (aS hi)
 have hkn:∀x∈r.kids,Nf x:=fun x hx=>hn.Ym hx
 have kb:∀i,i<r.kids.length→aV Tryz.prog 202 [rx (r.kids.getD i default),int a] (.p (rx (dR a (r.kids.getD i default)))):=fun i hi =>
   ih _ (abj (il hi) hm) _ (aaD _) (hkn _ (aS hi)) (hkw i hi) (hd.hk _ (aS hi))
 have e0:r.kind=5→rx ((r.kids.map (dR a)).getD 0 default)=rx (dR a (r.kids.getD 0 default)):=fun h=>by rw[getD_map (h5l h)]
 have hs1:r.kind=3→∀i,aV Tryz.prog 234 [jM (r.kids.drop (i+1))] (.p (rx (c4 (r.kids.drop (i+1))))):=fun h3 i =>
   n3 (B:=B) adh (by rw[aaX];omega) (by rw[uR hn h3,aaX];omega) fun x hx=>iy hw (abp hx)
 have hs2:r.kind=3→∀i,i<r.kids.length→aV Tryz.prog 234 [jM [dR a (r.kids.getD i default),c4 (r.kids.drop (i+1))]] (.p (rx (dQ a r.kids i))):=fun h3 i hi=>by
   have h1:=hd.hs (.inl h3) _ (aS hi);have h2:=zN (r.kids.drop (i+1)) fun x hx=>hkn x (abp hx)
   have h4:wd (c4 (r.kids.drop (i+1)))≤B:=QJ (by rw[uR hn h3,aaX];omega) fun x hx=>iy hw (abp hx)
   rw[uR hn h3,aaX] at h2;refine n3 (B:=B+B) adh (by show 2≤_;omega) ?_ fun x hx=>?_
   · show (cE _ ++ (cE _ ++ [])).length ≤ _
     rw[abe,aaM];omega
   · rcases aa3.1 hx with rfl | hx
     · omega
     · rw[aaY.1 hx];omega
 have hs3:r.kind=5→aV Tryz.prog 234 [jM [dR a (r.kids.getD 0 default),r]] (.p (rx (c4 [dR a (r.kids.getD 0 default),r]))):=fun h5=>by
   have h1:=hd.hs (.inr h5) _ (aS (h5l h5));have:=h5l h5;refine n3 (B:=B+B) adh (by show 2≤_;omega) ?_ fun x hx=>?_
   · show (cE _ ++ (cE _ ++ [])).length ≤ _
     rw[abe,aaM,ep (x:=r) adh adh];show _+1≤_;omega
   · rcases aa3.1 hx with rfl | hx
     · omega
     · rw[aaY.1 hx];omega
 have hal:aV Tryz.prog 235 [jM (dL a r)] (.p (rx (gZ (dL a r)))):=by
   refine Bn (B:=B) adh ?_ ?_
   · unfold dL
     split
     · rw[aaA];omega
     · split
       · have:=CB a r.kids;omega
       · exact aaG _
   · unfold dL
     split
     · exact hd.h4 ‹_›
     · split
       · exact hd.h3 ‹_›
       · exact⟨aaG _,aaG _,fun x hx=>by cases hx⟩
 rw[fy r];refine bh Xa (aaz J) fun w0 M0 ae=>?_
 refine db [2,1005,2] [1,2,4,5] [4,5] ?_;refine ct (fun zs=>(r.kind≠5∧(r.kind=2→¬a∈r.syms))∧zs=⟨82,[(4,.pbox 4 0),(5,.own 5)],[(4,.box 87 [vvw (.sc (.int .i64 0)),vvv,vvv]),(5,.arr 87 ((dL a r).map rx))]⟩) ?_ ?_;refine wS [3013] [1,2,4,5,13,14] [4,5] ?_ ?_<;>intro h1;refine wA [6] [4,5,18,19] [4,5] ?_;refine oC J J J J (Rb (jJ.1 (hset adh)).2.1 adh) ?_;refine wS [3012] [4,5,23] [4,5] ?_ ?_<;>intro h2;refine wZ [10] ?_;refine ao J ?_;rotate_left;refine wA [10003] [4,5] [4,5] ?_;rotate_left;refine wS [3007] [1,2,4,5,13,25] [4,5] ?_ ?_<;>intro h3;refine wA [5,4] [1,4,5,28,29,30] [4,5] ?_;refine lr (fun zl zo zm zs=>∃i:Nat,zm=r.kids.length-i∧(i≤r.kids.length)∧zs=eV 82 [(5,.own 5),(30,vvw (int i))] zl [(5,.arr 87 (((r.kids.take i).map (dR a)).map rx))] zo) ?_ ?_;exact⟨_,0,rfl,aaG _,rfl⟩;rintro zm zs ⟨i,rfl,aY,rfl⟩;refine wS [3006] [1,4,5,28,29,30,31] [4,5] ?_ ?_<;>intro h4;refine wA [7,9] [1,4,28,29,30,34,35,36] [4,5] ?_;refine oN J J J J J (kb _ adh) ?_;refine wA [0,1000,5,9002] [1,4,5,28,29,30] [4,5] ?_;exact⟨_,⟨i+1,rfl,adh,by rw[bF adh,aaK,aaK];rfl⟩,adh⟩;refine wA [10006] [4,5] [4,5] ?_;rotate_left;refine wS [3007] [1,2,4,5,13,41] [4,5] ?_ ?_<;>intro h5;refine wA [5,4] [1,2,4,5,44,45,46] [4,5] ?_;refine lr (fun zl zo zm zs=>∃i:Nat,zm=r.kids.length-i∧(i≤r.kids.length)∧(∀j,j<i→cT (r.kids.getD j default)=true)∧zs=eV 82 [(5,.own 5),(46,vvw (int i))] zl [(5,.arr 87 (((List.range i).map (dQ a r.kids)).map rx))] zo) ?_ ?_;exact⟨_,0,rfl,aaG _,fun j hj=>absurd hj adh,rfl⟩;rintro zm zs ⟨i,rfl,gi,gj,rfl⟩
 skip
 refine wS [3006] [1,2,4,5,44,45,46,47] [4,5] ?_ ?_<;>intro h6;refine wA [8,2007,3] [1,2,4,10,11,44,45,46,51,52,53] [4,5,11] ?_;refine oF J J J J J J J (kb _ adh) ?_;refine wZ [6003,6000,5000] ?_;refine oF J J J J J J J (hs1 adh i) ?_;refine wZ [6000,5000] ?_;refine oF J J J J J J J (hs2 adh i adh) ?_;refine wZ [6000,5000] ?_;refine b8 adi ?_;refine cB J (step_append J J J J Tryz.underlying85 jz J J ae (cA J (bO (by rfl))) (by first|(simp only[ll];omega)|omega) (by first|(simp only[ll];omega)|omega)) ?_;refine sQ J J J (kQ J J) ?_;refine dN ?_;refine hZ [4] [1,2,4,5,44,45,46,65] [4,5] ?_;refine oC J J J J (nj _ _ (aaD _) (by have:=hkw i adh;omega)) ?_;refine wS [3003] [1,2,4,5,44,45,46,67] [4,5] ?_ ?_<;>intro h7;refine wA [10007] [4,5] [4,5] ?_;rotate_left;refine wA [5,9002] [1,2,4,5,44,45,46] [4,5] ?_;exact⟨_,⟨i+1,rfl,adh,cc gj (by first|assumption|simpa using h5|(simp_all;done)),by rw[abB,aaK,aaK];rfl⟩,adh⟩;refine wA [10006] [4,5] [4,5] ?_;rotate_left;refine wS [3007] [1,2,4,5,69] [4,5] ?_ ?_<;>intro h8;refine wA [2002,6002,2] [2,4,74,75] [4] ?_;refine oF J J J J J J J (kb 0 (h5l adh)) ?_;refine wZ [6001,5000] ?_;refine oF J J J J J J J (by have h:=hs3 adh;rw[show jM [dR a (r.kids.getD 0 default),r]=.sl [rx (dR a (r.kids.getD 0 default)),rx r] from J,fy r] at h;exact h) ?_;refine b8 adi ?_;refine cB J (aW J J J bY J J J J adj J J ae) ?_;refine dN ?_;refine Dn [4] ?_;refine ao J ?_;rotate_left;refine wA [10003] [4,5] [4,5] ?_;rotate_left;rintro zs ⟨OF,rfl⟩;refine wA [1] [4,5] [4,5] ?_;refine aD 82 [(4,_),(5,_)] [(4,_)] ae J ⟨.inl J,.inr ⟨_,_,rfl,rfl,rfl⟩,trivial⟩ ⟨rfl,trivial⟩ ?_;refine gV [2] [4,80] [4] ?_;refine oN J J J J J (hal) ?_;refine wZ [4] ?_;refine ao J ?_;rotate_left
 all_goals first
  | (
    first|(rw[YN adh adk];rfl)|(rw[Iw adh (h5l adh)];rfl)|(rw[uK OF.1 OF.2];rfl);done)
  | (
    refine⟨⟨adh,fun h=>by first|assumption|omega⟩,?_⟩
    first
      | (rw[Cn adh adh];rfl)
      | (rw[Ng adh,aa2 adh];first|done|rfl)
      | (rw[Ke adh,Qn (i:=i) adh gj];done)
      | (rw[Ke adh,Nh (i:=i) adh gj adk,abB,aaK,aaK];rfl);done)
theorem E9 {w:List Int}(hB:B≤274877906000)(h:r.size≤137438953472)(hw:w.length≤1099511627776)(hM:∀k,k≤w.length→wd (Kh r w k)≤B∧∀b,yr B b (Kh r w k)) :
  au Tryz.prog 183 [rx r,ints w] (.p (bool (sd r w))):=by
 refine cF Xc fun w0 M0 ae=>?_
 refine db [1002,6] [1,2,7] [2] ?_;refine oC J J J J (eD adh) ?_;refine wA [7,4] [2,9,10,11] [2] ?_;refine lr (fun zl zo zm zs=>∃k:Nat,zm=w.length-k∧(k≤w.length)∧zs=eV 21 [(2,.pbox 2 0),(9,vvz (ints w)),(10,vvw (int w.length)),(11,vvw (int k))] zl [(2,.box 87 [vvw (int (Kh r w k).kind),vvw (ints (Kh r w k).syms),vvw (.sl (Rx.gv (Kh r w k).kids))])] zo) ?_ ?_;exact⟨_,0,rfl,aaG _,rfl⟩;rintro zm zs ⟨k,rfl,aY,rfl⟩;refine wS [3006] [2,9,10,11,12] [2] ?_ ?_<;>intro h1;refine wA [7,7] [2,9,10,11,15,16] [2] ?_;refine oN J J J J J (tJ hB _ _ _ (aaD _) (TJ r w k) (hM k adh).1 ((hM k adh).2 _)) ?_;refine wA [5,9002] [2,9,10,11] [2] ?_;exact⟨_,⟨k+1,rfl,adh,by rw[Ni adh];rfl⟩,adh⟩;refine wA [9] [19] [] ?_;refine oC J J J J (nj _ _ (aaD _) (by have:=(hM k adh).1;omega)) ?_;refine wZ [8004] ?_;rw[show k=w.length by omega];rfl
theorem Fa {w:List Int}{S N:Nat}(h:r.size≤137438953472)(hS:(dw r).size≤S)(hN:w.length≤N)(hw:N≤1099511627776)(hK:(2*S*(N+2)+66)*(2*S*(N+2)+66)≤274877906000) :
  au Tryz.prog 183 [rx r,ints w] (.p (bool (sd r w))) :=
 E9 (aaD _) h adh fun k hk=>by
  rw[show Kh r w k=Dv (dw r) (w.take k) from rfl];have h1:=fun b=>IJ (S:=S) (N:=N) (K:=2*S*(N+2)+66) (B:=274877906000) (aaD _) hK b (qS r) hS (v:=w.take k) (by rw[aaO];omega)
  exact⟨(h1 0).1,fun b=>(h1 b).2⟩
end Go.Proofs.YtlapahnodhmcpaaGreat
namespace Go.Wb
open Go.Am
theorem Bo:∀ (l:List Rx)(s:List Int),(l.foldl oO s).length=s.length+((l.filter fun x=>decide (x.kind=2)).map fun x=>x.syms.length).sum
 | [],s=>rfl
 | x :: l, s => by
   rw[acz,Bo l,abz];by_cases h:x.kind=2
   · rw[uD h,if_pos (by simpa using h),abx,List.sum_cons,aaM];omega
   · rw[pS h,if_neg (by simpa using h)]
theorem Fb:∀ {l:List Rx},pT rh l→(∀x∈l,∀y∈l,x.kind=2→y.kind=2→x=y)→(∀x∈l,x.syms.length≤64)→((l.filter fun x=>decide (x.kind=2)).map fun x=>x.syms.length).sum≤64
 | [],_,_,_=>by decide
 | x :: l, hs, h2, h => by
   have hc:=abt.1 hs;rw[abz];by_cases hx:x.kind=2
   · rw [if_pos (by simpa using hx), abx, List.sum_cons]
     have:l.filter (fun x=>decide (x.kind=2))=[]:=List.filter_eq_nil_iff.2 fun y hy hy2=>(hc.1 y hy).2 (h2 x aaJ y (aaW _ hy) hx (by simpa using hy2))
     rw[this];exact h x aaJ
   · rw [if_neg (by simpa using hx)]
     exact Fb hc.2 (fun a ha b hb=>h2 a (aaW _ ha) b (aaW _ hb)) fun a ha=>h a (aaW _ ha)
theorem yJ:∀ (l:List Rx)(k:List Rx),(l.foldl fZ k).length≤k.length+l.length
 | [],k=>aaD _
 | x :: l, k => by
   rw[acz];refine abb (yJ l _) ?_;have:(fZ k x).length≤k.length+1:=by unfold fZ;split<;>simp
   rw[aaE];omega
theorem Xd {B:Nat}{r:Rx}(hn:Nf r)(hk:r.kind=4)(hw:wd r≤B)(hB:64≤B):G6 B r.kids:=by
 obtain⟨_,_,h3,h4,h5,h6,_⟩:=hn.k4 hk;have hl:aX r.kids=r.kids:=nV fun x hx=>(h4 x hx).2
 refine⟨?_,?_,fun x hx=>iy hw hx⟩
 ·show(df (aX r.kids)).length≤B;rw[hl];have h1:=Bo r.kids [];have h2:=Fb h5 h6 fun x hx=>uP (h3 x hx)
  show(r.kids.foldl oO []).length≤B;rw[h1];simp only[aaL];omega
 ·show(fe (aX r.kids)).length≤B;rw[hl];have h1:=yJ r.kids [];have:=(gW.1 hw).1.2;show(r.kids.foldl fZ []).length≤B;simp only[aaL] at h1;omega
end Go.Wb
namespace Go.Proofs.YtlapahnodhmcpaaGreat
open Go.Am Go.Wb
theorem vT:∀ (m:Nat)(r:Rx),r.size≤m→wd r≤1099511627776→au Tryz.prog 143 [rx r] (.p (bool (aT r))):=by
 intro m
 induction m with
 | zero=>intro a hr _;have:=size_pos a;omega
 | succ m ih =>
 intro r hr hm;have hkl:=(gW.1 hm).1.2;have hsl:=(gW.1 hm).1.1;rw[fy r];refine cF SP fun w0 M0 ae=>?_
 refine pO [2,3018] [1,4,5] [] ?_ ?_<;>intro h1;refine wS [8,4002] [1,12] [] ?_ ?_<;>intro h2';refine wZ [2,8008] ?_;rotate_left;refine wZ [8011] ?_;rotate_left;refine wS [3006] [1,4,5] [] ?_ ?_<;>intro h3;refine wS [5,4002] [1,12] [] ?_ ?_<;>intro h4';refine wZ [2,8008] ?_;rotate_left;refine wZ [8011] ?_;rotate_left;refine wS [3007] [1,4,18] [] ?_ ?_<;>intro h5;refine wS [5,4002] [1,24] [] ?_ ?_<;>intro h6';refine wA [2] [24,26] [] ?_;refine oC J J J J (EX adh) ?_;refine wZ [8007] ?_;rotate_left;refine wZ [8010] ?_;rotate_left;refine wS [3007] [1,4,29] [] ?_ ?_<;>intro h7;refine wS [5,4002] [1,35] [] ?_ ?_<;>intro h8';refine wS [2,4003] [1,41] [] ?_ ?_<;>intro h9';refine wA [2,1] [41,45] [] ?_;refine oC J J J J (ih _ (abI (abj (il adh) hr)) (iy hm (aS adh))) ?_;refine wZ [8007] ?_;rotate_left;refine wZ [8012] ?_;rotate_left;refine wZ [8018] ?_;rotate_left;refine wS [3008] [1,4,48] [] ?_ ?_<;>intro h10;refine wS [8,4002] [1,55] [] ?_ ?_<;>intro h11';refine wA [2] [55,57] [] ?_;refine oC J J J J (gP (p:=fun x=>!aT x) adh (fun x hx=>nd (ih _ (abI (abj (dp hx) hr)) (iy hm hx)))) ?_;refine wZ [8008] ?_;rotate_left;refine wZ [8011] ?_;rotate_left;refine wS [3006] [1,48] [] ?_ ?_<;>intro h12;refine wS [5,4002] [1,55] [] ?_ ?_<;>intro h13';refine wA [2] [55,57] [] ?_;refine oC J J J J (gP (p:=fun x=>!aT x) adh (fun x hx=>nd (ih _ (abI (abj (dp hx) hr)) (iy hm hx)))) ?_;refine wZ [8008] ?_;rotate_left;refine wZ [8011] ?_;rotate_left;refine wZ [8010] ?_;rotate_left
 all_goals
  first|(rw[jG (r:=r) adh];simp_all;done)|(rw[mh (r:=r) adh];simp_all;done)|(rw[ja (r:=r) adh,decide_eq_true (p:=r.syms.length=0) adh,decide_eq_true (p:=r.kids.length=1) adh];first|rfl|(simp_all;done))|(rw[ja (r:=r) adh,decide_eq_false (p:=r.kids.length=1) adh,ab1,ab5];first|done|rfl|(simp_all;done))|(rw[ja (r:=r) adh,decide_eq_false (p:=r.syms.length=0) adh,ab1];first|done|rfl|(simp_all;done))|(rw[lV (r:=r) adh];simp_all;done)|(rw[ux (r:=r) adh];done)
variable{B:Nat}
theorem Fc (hB:B≤274877906000)(t:Bool)(ht0:t=false):∀(m:Nat)(r:Rx),r.size≤m→Nf r→wd r≤B→au Tryz.prog 200 [rx r,bool t] (.p (rx (aN t r))):=by
 refine fun m=>Nat.strongRecOn m fun m ih=>?_
 intro r hm hn hw;have hv:=nT hn;have hl:=(gW.1 hw).1.2;have hsy:=(gW.1 hw).1.1;have e:r.kids.map (aN t)=r.kids:=by rw[ht0];exact yh fun x hx=>tp (hn.Ym hx)
 have hK:∀x∈r.kids.map (aN t),Nf x:=fun x hx=>hn.Ym (e ▸ hx)
 have h5l:r.kind=5→0<(r.kids.map (aN t)).length:=fun h=>by rw[aaA,(lL hv h).2];decide
 have kb:∀i,i<r.kids.length→au Tryz.prog 200 [rx (r.kids.getD i default),bool t] (.p (rx (aN t (r.kids.getD i default)))):=fun i hi =>
  ih _ (abj (il hi) hm) _ (aaD _) (hn.Ym (aS hi)) (iy hw (aS hi))
 have hs1:r.kind=3→aV Tryz.prog 234 [jM (r.kids.map (aN t)).reverse] (.p (rx (c4 (r.kids.map (aN t)).reverse))):=fun h3=>by
  rw[e];refine n3 (B:=B) adh (by rw[abh];omega) ?_ fun x hx=>iy hw (acH.1 hx)
  rw[nU fun x hx=>((hn.k3 h3).2.2.2 x (acH.1 hx)).2,abh];omega
 have hs2:r.kind=3→aV Tryz.prog 234 [jM (r.kids.map (aN t))] (.p (rx (c4 (r.kids.map (aN t))))):=fun h3=>by
  rw[e];refine n3 (B:=B) adh adh ?_ fun x hx=>iy hw hx
  rw[nU fun x hx=>((hn.k3 h3).2.2.2 x hx).2];omega
 have hal:r.kind=4→aV Tryz.prog 235 [jM (r.kids.map (aN t))] (.p (rx (gZ (r.kids.map (aN t))))):=fun h4=>by
  rw[e];refine Bn (B:=B+64) adh adh ?_;exact Xd hn h4 (abb hw (Nat.le_add_right _ _)) (Nat.le_add_left _ _)
 rw[fy r];refine eH S1 (aaz J) fun w0 M0 ae=>?_
 refine db [2,1005,7,4] [1,2,4,5,9,10,11] [4,5] ?_;refine lr (fun zl zo zm zs=>∃i:Nat,zm=r.kids.length-i∧(i≤r.kids.length)∧zs=eV 47 [(5,.own 5),(11,vvw (int i))] zl [(5,.arr 87 (((r.kids.take i).map (aN t)).map rx))] zo) ?_ ?_;exact⟨_,0,rfl,aaG _,rfl⟩;rintro zm zs ⟨i,rfl,aY,rfl⟩;refine wS [3006] [1,2,4,5,9,10,11,12] [4,5] ?_ ?_<;>intro h1;refine wA [7,9] [1,2,4,9,10,11,15,16,17] [4,5] ?_;refine oC J J J J (kb _ adh) ?_;refine wA [0,1000,5,9002] [1,2,4,5,9,10,11] [4,5] ?_;exact⟨_,⟨i+1,rfl,adh,by rw[bF adh,aaK,aaK];rfl⟩,adh⟩;refine wA [8] [1,2,4,5] [4,5] ?_;rw[show r.kids.take i=r.kids from aa2 adh];refine wS [3012] [1,2,4,5,23,24] [4,5] ?_ ?_<;>intro h2;refine wS [3007] [4,5,26] [4,5] ?_ ?_<;>intro h3;refine wA [3] [4,5,27] [4,5] ?_;refine oS J (A2 (cells:=Yk) SU J J J J J J bY adj (by rw[aaA];omega) ae) J ?_;refine wA [3] [4,5] [4,5] ?_;refine aD 47 [(4,_),(5,_)] [(4,_)] ae J ⟨.inl J,.inr ⟨_,_,rfl,rfl,rfl⟩,trivial⟩ ⟨rfl,trivial⟩ ?_;refine gV [2] [4,29] [4] ?_;refine oN J J J J J (by first|exact hs1 adh|exact hs2 adh) ?_;refine wZ [6] ?_;refine ao J ?_;rotate_left;refine wA [4] [4,5] [4,5] ?_;refine aD 47 [(4,_),(5,_)] [(4,_)] ae J ⟨.inl J,.inr ⟨_,_,rfl,rfl,rfl⟩,trivial⟩ ⟨rfl,trivial⟩ ?_;refine gV [2] [4,29] [4] ?_;refine oN J J J J J (by first|exact hs1 adh|exact hs2 adh) ?_;refine wZ [6] ?_;refine ao J ?_;rotate_left;refine wS [3007] [2,4,5,23,31] [4,5] ?_ ?_<;>intro h4;refine wA [2] [4,5] [4,5] ?_;refine aD 47 [(4,_),(5,_)] [(4,_)] ae J ⟨.inl J,.inr ⟨_,_,rfl,rfl,rfl⟩,trivial⟩ ⟨rfl,trivial⟩ ?_;refine gV [2] [4,33] [4] ?_;refine oN J J J J J (hal adh) ?_;refine wZ [6] ?_;refine ao J ?_;rotate_left;refine wS [3007] [2,4,5,35] [4,5] ?_ ?_<;>intro h5;refine wA [2] [4,5] [4,5] ?_;refine aD 47 [(4,_),(5,_)] [(4,_)] ae J ⟨.inl J,.inr ⟨_,_,rfl,rfl,rfl⟩,trivial⟩ ⟨rfl,trivial⟩ ?_;refine gV [2] [4,37] [4] ?_;refine oP J (dh J Tryz.underlying85 bY J J (by have:=h5l adh;omega) (fun _=>rfl)) ?_;refine wA [1] [4,39] [4] ?_;refine oN J J J J J (Bm (x:=(r.kids.map (aN t)).getD 0 default) (fun h4=>by have:=((hK _ (aS (h5l adh))).k4 h4).2.1;omega)) ?_;refine wZ [6] ?_;refine ao J ?_;rotate_left;refine wA [2005,4] [4,42,44] [4] ?_;refine oE J J J J J J (ft adh) ?_;refine wA [1] [4,46] [4] ?_;refine b8 adi ?_;refine cB J (aW J J J bY J J J J adj J J ae) ?_;refine dN ?_;refine Dn [2] ?_;refine ao J ?_;rotate_left
 all_goals
  first
   | (rw[AO adh adk];rfl)
   | (rw[AP adh adk];rfl)
   | (rw[kY adh];rfl)
   | (rw[kZ adh];rfl)
   | (rw[jY adh adh adh,mT];rfl)
variable{r:Rx}
theorem Bp (hB:B≤274877906000)(hn:Nf r)(hw:wd r≤B):au Tryz.prog 146 [rx r] (.p (rx r)):=by
 refine eH S2 (aaz J) fun w0 M0 ae=>?_
 refine db [2,7] [1,2,3] [2] ?_;refine oC J J J J (by have h:=vT _ r (aaD _) adh;rw[nT hn] at h;exact h) ?_;refine oP J (bA (b':=false) (kU J J) (rfl)) ?_;refine wA [8] [2,7] [2] ?_;refine oC J J J J (Fc hB false J _ _ (aaD _) hn hw) ?_;refine wZ [4] ?_;refine ao J ?_;rw[tp hn];rfl
theorem CL {a:Int}(hB:B≤274877906000)(hn:Nf r)(hw:wd r≤B)(hd:yr B a r):aV Tryz.prog 150 [rx r,int a] (.p (rx (dR a r))):=by
 refine bh Xb (aaz J) fun w0 M0 ae=>?_
 refine db [2,6] [1,4,5] [4] ?_;refine oC J J J J (Bp (B:=B) adh hn hw) ?_;refine wA [1] [4,6,7] [4] ?_;refine oN J J J J J (tJ hB a _ _ (aaD _) hn hw hd) ?_;refine wZ [4] ?_;refine ao J ?_;rfl
theorem Fe (h:wd r≤1099511627776):au Tryz.prog 152 [rx r] (.p (bool (aT r&&cT r))):=by
 refine cF WM fun w0 M0 ae=>?_
 refine db [2,6] [1,3] [] ?_;refine oC J J J J (vT _ _ (aaD _) h) ?_;refine wS [4001] [1,5] [] ?_ ?_<;>intro h1';refine wA [1] [5,6] [] ?_;refine oC J J J J (nj _ _ (aaD _) h) ?_;refine wZ [8005] ?_;simp_all;refine wZ [8007] ?_;simp_all
end Go.Proofs.YtlapahnodhmcpaaGreat
namespace Go.Wf
open Go.Am Go.Wb
def Ff (i:Nat):List AV:=(List.range 64).map fun j:Nat=>int (if j<i then(j:Int) else 0)
theorem OG {i:Nat}:(Ff i).length=64:=by unfold Ff;rw[aaA];rfl
theorem OH {i:Nat}(h:i<64):(Ff i).set i (int i)=Ff (i+1):=by
 unfold Ff;refine abJ fun j=>?_
 rw[List.getElem?_set,aaI,aaI,aaA,aa1];by_cases hj:i=j
 ·subst hj;rw[if_pos rfl,if_pos h,abX h,abu,if_pos (Nat.lt_succ_self _)]
 ·rw[if_neg hj];rcases aa9 j 64 with hlt|hge
  ·rw[abX hlt,abu,abu];by_cases q:j<i
   ·rw[if_pos q,if_pos adh]
   ·rw[if_neg q,if_neg adh]
  ·rw[abg (by rw[aa1];exact hge)];rfl
theorem Xe:Ff 64=anyS.map int:=by
 unfold Ff anyS;rw[acu];refine acQ fun j hj=>?_
 rw[if_pos (aba.1 hj)];rfl
theorem Uz:rx jL=.agg [int 5,ints [],.sl [.agg [int 2,ints anyS,.sl []]]]:=by unfold jL;rw[mT];show AV.agg [int 5,ints [],.sl [rx (.mk 2 anyS [])]]=_;rw[mT];rfl
theorem yK (r:Rx):(fQ r).size≤71+r.size:=by rw[size_eq];show 1+0+(jL.size+(r.size+0))≤_;have:=Oq;omega
def rxC (z:Rx):List AV:=[int z.kind,ints z.syms,.sl (Rx.gv z.kids)]
end Go.Wf
namespace Go.Proofs.YtlapahnodhmcpaaGreat
open Go.Am Go.Wb Go.Wc Go.Wf Go.We
abbrev Rc (z:Rx):Ob:=.box 87 [vvw (int z.kind),vvw (ints z.syms),vvw (.sl (Rx.gv z.kids))]
theorem Xf:ug Tryz.prog 210 Tryz.f210.ntmps 2 87 3 (Tryz.f210.body.getD .skip):=⟨Tryz.f210,Tryz.func210,rfl,rfl,rfl,adi,je,bY⟩
theorem gQ {l:List Rx}:aV Tryz.prog 210 [jM l] (.p (rx (.mk 3 [] l))):=by
 refine bh Xf (aaz J) fun w0 M0 ae=>?_
 refine AD [13] ?_;refine ao J ?_;rw[mT];rfl
theorem Xg:ug Tryz.prog 211 Tryz.f211.ntmps 0 87 3 (Tryz.f211.body.getD .skip):=⟨Tryz.f211,Tryz.func211,rfl,rfl,rfl,adi,je,bY⟩
theorem jf:au Tryz.prog 211 [] (.p (rx jL)):=by
 refine eH Xg (aaz J) fun w0 M0 ae=>?_
 refine db [7] [0] [0] ?_;refine oS J (qC J J J J Tryz.underlying22 Vi Yn J J J (by first|(simp only[ll];omega)|omega) (by first|(simp only[ll];omega)|omega) (by first|(simp only[ll];omega)|omega) ae) J ?_;refine wA [7] [0,1,4] [0,3] ?_;refine oP J (Dx J Tryz.underlying22 J) ?_;refine wA [4] [0,1,5,6] [0,3] ?_;refine lr (fun zl zo zm zs=>∃i:Nat,zm=64-i∧(i≤64)∧zs=eV 18 [(1,.own 3),(5,vvw (int 64)),(6,vvw (int i))] zl [(3,.arr 3 (Ff i))] zo) ?_ ?_;exact⟨_,0,rfl,aaG _,rfl⟩;rintro zm zs ⟨i,rfl,aY,rfl⟩;refine wS [3006] [0,1,5,6,7] [0,3] ?_ ?_<;>intro h1;refine wA [15] [0,1,5,6,9,10,11] [0,3] ?_;refine oP J (ah J Tryz.underlying22 w6 J J J (by rw[OG];omega)) ?_;refine oS J (aj J J J w6 J J (e9 (by rw[aa1];omega)) J J (.inl J) J (aaz J) ae) J ?_;refine wA [4,9002] [0,1,5,6] [0,3] ?_;exact⟨_,⟨i+1,rfl,adh,by rw[←OH adh];rfl⟩,adh⟩;refine wA [7] [0,1] [0,3] ?_;refine aD 18 [(0,_),(1,_)] [(0,_)] ae J ⟨.inl J,.inr ⟨_,_,rfl,rfl,rfl⟩,trivial⟩ ⟨rfl,trivial⟩ ?_;refine gV [2] [0,14] [0] ?_;refine oP J (ar (aK J yA my J J J) J) ?_;refine wZ [0,5] ?_;refine ao J ?_;rw[show i=64 by omega,Xe,Uz];rfl
theorem Xh:R1 Tryz.prog 227 Tryz.f227.ntmps (Tryz.f227.body.getD .skip):=⟨Tryz.f227,Tryz.func227,rfl,rfl,rfl,adi⟩
theorem CM {B:Nat}{z:Rx}{x:Int}(hB:B≤274877906000)(hn:Nf z)(hw:wd z≤B)(hd:yr B x z)(hw2:wd (dR x z)≤B):lB Tryz.prog 227 [vvz (int x),.pbox 1000000 0] [(1000000,Rc z)] (vvw (.tup [])) [(1000000,Rc (dR x z))]:=by
 refine pH Xh (aaz J) fun w0 M0 ae=>?_
 refine db [3] [1,3,4] [1000000] ?_;refine oN J J J J J (CL hB hn hw hd) ?_;refine oC J J J J (Bp hB (rE x hn) hw2) ?_;refine wZ [2] ?_;refine en (o1:=[(1000000,_)]) ⟨rfl,trivial⟩ ?_;rfl
abbrev Xi:=dT 1 Tryz.func228
theorem CN {z:Rx}(hn:Nf z)(hw:wd z≤1099511627776):lB Tryz.prog 228 [.pbox 1000000 0] [(1000000,Rc z)] (vvw (bool (cT z))) [(1000000,Rc z)]:=by
 refine gL Xi (aaz J) fun w0 M0 ae=>?_
 refine db [8] [2] [1000000] ?_;refine oC J J J J (by have h:=Fe hw;rw[nT hn,abS] at h;exact h) ?_;refine wZ [4] ?_;refine eG (o1:=[(1000000,_)]) J ⟨rfl,trivial⟩ ?_;exact⟨rfl,rfl⟩
theorem Xj:Gd Tryz.prog 185 Tryz.f185.ntmps 2 3 (Tryz.f185.body.getD .skip):=⟨Tryz.f185,Tryz.func185,rfl,rfl,rfl,adi⟩
theorem vU {r:Rx}(h:r.size≤1099511627):Mv Tryz.prog 185 [rx r] 87 (rxC (dw (fQ r))) 227 228:=by
 have hs:(fQ r).size≤137438953472:=by have:=yK r;omega
 refine zH Xj (aaz J) fun w0 M0 ae=>?_
 refine db [2,5] [1] [] ?_;refine uh mixed adi _ J ?_;refine BR adi (bM (n:=7) adi ?_);refine xw (i:=0) (j:=1) (k:=5) adi J J J J J J (aM J J (cg J J J (jf) ae)) (aM J J (aF J je bY J (aaz J))) (cR J J J J J my J ae) ?_ ?_ ?_;refine eU (i:=1) (j:=5) adi J J J J (aM J J (aF J je bY J (aaz J))) (cR J J J J J my J ae) ?_ ?_;refine eU (i:=2) (j:=5) adi J J J J (aM J J (eF J Tryz.underlying85 jz J J J J ae)) (cR J J J J J my J ae) ?_ ?_;refine eU (i:=3) (j:=5) adi J J J J (aM J J (bI J J J J (gQ (l:=[jL,r])) ae)) (cR J J J J J my J ae) ?_ ?_;refine eU (i:=4) (j:=5) adi J J J J (aM J J (cg J J J (eD (r:=fQ r) adh) ae)) (cR J J J J J my J ae) ?_ ?_;refine aH (i:=5) adi J J (cR J J J J J my J ae) ?_;refine aH (i:=6) adi J J (aW J J J bY J J J J adj J J ae) ?_;refine bf adi ?_;refine hZ [3] [4] [4] ?_;refine wZ [0,5,12] ?_;refine gA J J J ?_;rfl;refine aH (i:=4) adi J J (aM J J (cg J J J (eD (r:=fQ r) adh) ae)) ?_;refine aH (i:=6) adi J J (aW J J J bY J J J J adj J J ae) ?_;refine bf adi ?_;refine hZ [3] [4] [4] ?_;refine wZ [0,5,12] ?_;refine gA J J J ?_;rfl;refine aH (i:=3) adi J J (aM J J (bI J J J J (gQ (l:=[jL,r])) ae)) ?_;refine aH (i:=4) adi J J (aM J J (cg J J J (eD (r:=fQ r) adh) ae)) ?_;refine aH (i:=6) adi J J (aW J J J bY J J J J adj J J ae) ?_;refine bf adi ?_;refine hZ [3] [4] [4] ?_;refine wZ [0,5,12] ?_;refine gA J J J ?_;rfl;refine xe 2 ?_;refine aH (i:=3) adi J J (aM J J (bI J J J J (gQ (l:=[jL,r])) ae)) ?_;refine aH (i:=4) adi J J (aM J J (cg J J J (eD (r:=fQ r) adh) ae)) ?_;refine aH (i:=6) adi J J (aW J J J bY J J J J adj J J ae) ?_;refine bf adi ?_;refine hZ [3] [4] [4] ?_;refine wZ [0,5,12] ?_;refine gA J J J ?_;rfl;refine xe 1 ?_;refine xe 2 ?_;refine aH (i:=3) adi J J (aM J J (bI J J J J (gQ (l:=[jL,r])) ae)) ?_;refine aH (i:=4) adi J J (aM J J (cg J J J (eD (r:=fQ r) adh) ae)) ?_;refine aH (i:=6) adi J J (aW J J J bY J J J J adj J J ae) ?_;refine bf adi ?_;refine hZ [3] [4] [4] ?_;refine wZ [0,5,12] ?_;refine gA J J J ?_;rfl;refine eU (i:=0) (j:=5) adi J J J J (aM J J (cg J J J (jf) ae)) (cR J J J J J my J ae) ?_ ?_;refine eU (i:=2) (j:=5) adi J J J J (aM J J (eF J Tryz.underlying85 jz J J J J ae)) (cR J J J J J my J ae) ?_ ?_;refine eU (i:=3) (j:=5) adi J J J J (aM J J (bI J J J J (gQ (l:=[jL,r])) ae)) (cR J J J J J my J ae) ?_ ?_;refine eU (i:=4) (j:=5) adi J J J J (aM J J (cg J J J (eD (r:=fQ r) adh) ae)) (cR J J J J J my J ae) ?_ ?_;refine aH (i:=5) adi J J (cR J J J J J my J ae) ?_;refine aH (i:=6) adi J J (aW J J J bY J J J J adj J J ae) ?_;refine bf adi ?_;refine hZ [3] [4] [4] ?_;refine wZ [0,5,12] ?_;refine gA J J J ?_;rfl;refine aH (i:=4) adi J J (aM J J (cg J J J (eD (r:=fQ r) adh) ae)) ?_;refine aH (i:=6) adi J J (aW J J J bY J J J J adj J J ae) ?_;refine bf adi ?_;refine hZ [3] [4] [4] ?_;refine wZ [0,5,12] ?_;refine gA J J J ?_;rfl;refine aH (i:=3) adi J J (aM J J (bI J J J J (gQ (l:=[jL,r])) ae)) ?_;refine aH (i:=4) adi J J (aM J J (cg J J J (eD (r:=fQ r) adh) ae)) ?_;refine aH (i:=6) adi J J (aW J J J bY J J J J adj J J ae) ?_;refine bf adi ?_;refine hZ [3] [4] [4] ?_;refine wZ [0,5,12] ?_;refine gA J J J ?_;rfl;refine xe 2 ?_;refine aH (i:=3) adi J J (aM J J (bI J J J J (gQ (l:=[jL,r])) ae)) ?_;refine aH (i:=4) adi J J (aM J J (cg J J J (eD (r:=fQ r) adh) ae)) ?_;refine aH (i:=6) adi J J (aW J J J bY J J J J adj J J ae) ?_;refine bf adi ?_;refine hZ [3] [4] [4] ?_;refine wZ [0,5,12] ?_;refine gA J J J ?_;rfl;refine aH (i:=0) adi J J (aM J J (cg J J J (jf) ae)) ?_;refine xe 2 ?_;refine aH (i:=3) adi J J (aM J J (bI J J J J (gQ (l:=[jL,r])) ae)) ?_;refine aH (i:=4) adi J J (aM J J (cg J J J (eD (r:=fQ r) adh) ae)) ?_;refine aH (i:=6) adi J J (aW J J J bY J J J J adj J J ae) ?_;refine bf adi ?_;refine hZ [3] [4] [4] ?_;refine wZ [0,5,12] ?_;refine gA J J J ?_;rfl;refine eU (i:=0) (j:=1) adi J J J J (aM J J (cg J J J (jf) ae)) (aM J J (aF J je bY J (aaz J))) ?_ ?_;refine xe 1 ?_;refine xe 2 ?_;refine aH (i:=3) adi J J (aM J J (bI J J J J (gQ (l:=[jL,r])) ae)) ?_;refine aH (i:=4) adi J J (aM J J (cg J J J (eD (r:=fQ r) adh) ae)) ?_;refine aH (i:=6) adi J J (aW J J J bY J J J J adj J J ae) ?_;refine bf adi ?_;refine hZ [3] [4] [4] ?_;refine wZ [0,5,12] ?_;refine gA J J J ?_;rfl;refine aH (i:=0) adi J J (aM J J (cg J J J (jf) ae)) ?_;refine xe 2 ?_;refine aH (i:=3) adi J J (aM J J (bI J J J J (gQ (l:=[jL,r])) ae)) ?_;refine aH (i:=4) adi J J (aM J J (cg J J J (eD (r:=fQ r) adh) ae)) ?_;refine aH (i:=6) adi J J (aW J J J bY J J J J adj J J ae) ?_;refine bf adi ?_;refine hZ [3] [4] [4] ?_;refine wZ [0,5,12] ?_;refine gA J J J ?_;rfl
end Go.Proofs.YtlapahnodhmcpaaGreat
