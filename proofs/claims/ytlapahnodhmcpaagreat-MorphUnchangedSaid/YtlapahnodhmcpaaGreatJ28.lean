/-
  Part of the proof.
-/
import Derived.Test.YtlapahnodhmcpaaGreatJ0
import Derived.Test.YtlapahnodhmcpaaGreatJ16
import Derived.Test.YtlapahnodhmcpaaGreatJ25
import Derived.Test.YtlapahnodhmcpaaGreatJ17
import Derived.Test.YtlapahnodhmcpaaGreatJ8
import Derived.Test.YtlapahnodhmcpaaGreatJ18
import Derived.Test.YtlapahnodhmcpaaGreatJ9
import Derived.Test.YtlapahnodhmcpaaGreatJ26
import Derived.Test.YtlapahnodhmcpaaGreatJ27
import Derived.Test.YtlapahnodhmcpaaGreatJ22
set_option linter.unusedVariables false
set_option linter.unusedSectionVars false
set_option linter.unusedSimpArgs false
set_option maxRecDepth 100000
set_option maxHeartbeats 40000000
namespace Go.Proofs.YtlapahnodhmcpaaGreat
open Go.Am Go.Wb
variable{l:List Rx}
theorem wY {P:Program}{w0:Fr}{M0:Nat→Prop}{s:St}{y:Operand}(hy:Am.viewAt s.ev s.o y=some (.pl,.sl (Rx.gA l))):Src P w0 M0 s y 3 (l.map rx):=by rw[xQ] at hy;exact eW hy (fun _=>rfl)
theorem YD:um Tryz.prog 69 Tryz.f69.ntmps 2 87 3 (Tryz.f69.body.getD .skip):=⟨Tryz.f69,Tryz.func69,rfl,rfl,rfl,acL,ja,ca⟩
theorem mC (s:List Int):aU Tryz.prog 69 [ints s] (.p (rx (.mk 2 s []))):=by
 refine bk YD (aah J) fun w0 M0 aa=>?_
 refine AD [13] ?_;refine aA J ?_;rfl
theorem YE:um Tryz.prog 92 Tryz.f92.ntmps 4 87 3 (Tryz.f92.body.getD .skip):=⟨Tryz.f92,Tryz.func92,rfl,rfl,rfl,acL,ja,ca⟩
theorem CD (k:Int)(l:List Rx):aU Tryz.prog 92 [int k,jM l] (.p (rx (.mk k [] l))):=by
 refine bk YE (aah J) fun w0 M0 aa=>?_
 refine AD [14] ?_;refine aA J ?_;rw[mT];rfl
theorem Ss:um Tryz.prog 234 Tryz.f234.ntmps 2 87 3 (Tryz.f234.body.getD .skip):=⟨Tryz.f234,Tryz.func234,rfl,rfl,rfl,acL,ja,ca⟩
theorem tK (hs:Rx.aB l≤1099511627776):aU Tryz.prog 234 [jM l] (.p (rx (cU l))):=by
 have hl:=dh l;refine bk Ss (aah J) fun w0 M0 aa=>?_
 refine c4 [1007,6,4] [2,3,6,7,8] [2,3] ?_;refine lr (fun zl zo zm zs=>∃i:Nat,zm=l.length-i∧(i≤l.length)∧(∀j,j<i→(l.getD j default).kind≠0)∧zs=eJ 42 [(3,.own 3),(8,vvw (int i))] zl [(3,.arr 87 ((ek (l.take i)).map rx))] zo) ?_ ?_;exact⟨_,0,rfl,aan _,fun j hj=>absurd hj acK,rfl⟩;rintro zm zs ⟨i,rfl,aY,aq,rfl⟩;have hroom:=fun h=>AH (l:=l) (i:=i) h
 refine wS [3006] [2,3,6,7,8,9] [2,3] ?_ ?_<;>intro h1;refine wS [7,3018] [2,3,5,6,7,8,13,18] [2,3,5] ?_ ?_<;>intro h2;refine wZ [14] ?_;refine aA J ?_;rotate_left;refine wS [3007] [2,3,5,6,7,8,13,21] [2,3,5] ?_ ?_<;>intro h3;refine wA [6,9002] [2,3,6,7,8] [2,3] ?_;rotate_left;refine wS [3007] [2,3,5,6,7,8,23] [2,3,5] ?_ ?_<;>intro h4;refine wA [1] [2,3,5,6,7,8] [2,3,5] ?_;have hr:=hroom acK;refine wA [4] [2,6,7,8,25,27] [2,3] ?_;refine oS J (step_append J J J J Tryz.underlying85 ju J J aa (wY (l:=(l.getD i default).kids) J) (by first|(simp only[ll];omega)|omega) (by first|(simp only[ll];omega)|omega)) J ?_;refine wA [6,9002] [2,3,6,7,8] [2,3] ?_;rotate_left;refine wA [1] [2,3,5,6,7,8] [2,3,5] ?_;have hr:=hroom acK;refine wA [3,1000,6,9002] [2,3,6,7,8] [2,3] ?_;rotate_left;refine wS [10,3009] [2,3,31,32] [2,3] ?_ ?_<;>intro h5;refine wZ [10] ?_;refine aA J ?_;rotate_left;refine wS [3007] [2,3,35] [2,3] ?_ ?_<;>intro h6;refine wZ [4,0,6] ?_;refine aA J ?_;rotate_left;refine wA [5] [2,3] [2,3] ?_;refine aI 42 [(2,_),(3,_)] [(2,_)] aa J ⟨.inl J,.inr ⟨_,_,rfl,rfl,rfl⟩,trivial⟩ ⟨rfl,trivial⟩ ?_;refine xP [7] ?_;refine aA J ?_;rotate_left
 all_goals first
  | (
    first|(rw[uz (i:=i) acK acK];rfl)|(rw[nM (fun j hj=>aq j acK)];rw[show ek l=ek (l.take i) by rw[aaB acK]];first|(rw[Gv acK];rfl)|(rw[Gw acK];rfl)|(rw[sj acK acK,mT];rfl));done)
  | (
    exact⟨_,⟨i+1,rfl,acK,bX aq acK,by rw[uy acK];first|(rw[mj acK,aaP];rfl)|(rw[iM acK,aas];rfl)|(rw[ef acK acK,aas];rfl)⟩,acK⟩;done)
abbrev T2:=dF 2 Tryz.func48
theorem Bj {c:Nat}:ak Tryz.prog 48 [.sc (.slice none 0 c)] (.fresh 3 []):=by
 refine cF T2 fun w0 M0 aa=>?_
 refine c4 [1002,6] [0,3] [] ?_;refine oP J (qO J Tryz.underlying22 J J) ?_;refine wZ [1005,8004] ?_;rfl
theorem G9 {a:Addr}{c:Nat}:ak Tryz.prog 48 [.sc (.slice (some a) 0 c)] (.fresh 3 []):=by
 refine cF T2 fun w0 M0 aa=>?_
 refine c4 [1002,6] [0,3] [] ?_;refine oP J (qO J Tryz.underlying22 J J) ?_;refine wA [1007,1] [5,6] [5] ?_;refine oS J (step_append J J J J Tryz.underlying22 Uz J J aa (HU J) acM acM) J ?_;refine wZ [8004] ?_;rfl
theorem Ha {l:List Int}(hl:l.length≤1099511627776)(h0:0<l.length):ak Tryz.prog 48 [ints l] (.fresh 3 (l.map int)):=by
 refine cF T2 fun w0 M0 aa=>?_
 refine c4 [1002,6] [0,3] [] ?_;refine oP J (s6 J Tryz.underlying22 J J (by simp only[aai];exact h0)) ?_;refine wA [1007,1] [5,6] [5] ?_;refine oS J (step_append J J J J Tryz.underlying22 Uz J J aa (s4 J (fun _=>⟨_,rfl⟩)) (by simp only[aai,aat];omega) (by simp only[aai,aat];omega)) J ?_;refine wZ [8004] ?_;rfl
theorem fj {l:List Int}(hl:l.length≤1099511627776):ak Tryz.prog 48 [ints l] (.fresh 3 (l.map int)):=by
 rcases aby l.length with h|h
 · have hl0 : l = [] := aaD h
   subst hl0;refine⟨(Bj (c:=0)).1,fun w vs hv hr=>?_⟩
   match vs,hv with
   | [v], _ =>
     have h0:=hr 0 _ rfl;simp only[List.getD_cons_zero] at h0;generalize hq:ints []=q at h0;cases h0 with
     | sl a n cap xs k cv hn hc hk hb hl2 hr2 =>
       simp only[ints,abu,AV.sl.injEq] at hq;subst hq;simp only[aat] at hn;subst hn;have one:∀z:Value,z.oneCell'=true→∀(j:Nat) d,[AV.sc z][j]?=some d→bJ w (fun _=>False) ([z].getD j undef) d:=fun z hz j d hd=>by
         match j with
         | 0=>simp at hd;subst hd;exact .sc _ hz
         | j+1=>simp at hd
       cases a with
       | none=>exact(Bj (c:=cap)).2 w [.slice none 0 cap] rfl (one _ rfl)
       | some ad=>exact(G9 (a:=ad) (c:=cap)).2 w [.slice (some ad) 0 cap] rfl (one _ rfl)
     | _=>cases hq
 · exact Ha hl h
theorem V7:um Tryz.prog 236 Tryz.f236.ntmps 2 87 3 (Tryz.f236.body.getD .skip):=⟨Tryz.f236,Tryz.func236,rfl,rfl,rfl,acL,ja,ca⟩
theorem Bk {x:Rx}(h4:x.kind=4→0<x.kids.length):aU Tryz.prog 236 [rx x] (.p (rx (lA x))):=by
 rw[ft x];refine bk V7 (aah J) fun w0 M0 aa=>?_
 refine pW [1002,3018] [1,2,4,5] [1,2] ?_ ?_<;>intro h1;refine wZ [13] ?_;refine aA J ?_;rotate_left;refine wS [3006] [1,2,4,5] [1,2] ?_ ?_<;>intro h2;refine wZ [10] ?_;refine aA J ?_;rotate_left;refine wS [3007] [1,2,9] [1,2] ?_ ?_<;>intro h3;refine wZ [10] ?_;refine aA J ?_;rotate_left;refine wS [4011] [1,2,15] [1,2] ?_ ?_<;>intro h4';refine wS [2,3006] [1,2,22] [1,2] ?_ ?_<;>intro h5;refine wS [5,8,3003] [1,2,30] [1,2] ?_ ?_<;>intro h6;refine wZ [4,7,5] ?_;refine aA J ?_;rotate_left;refine wZ [6,5] ?_;refine aA J ?_;rotate_left;refine wZ [6,5] ?_;refine aA J ?_;rotate_left;refine wZ [15,5] ?_;refine aA J ?_;rotate_left
 all_goals
  try simp only[Int.toNat_zero,Int.toNat_one,aaw] at *
  first
   | (exfalso;omega)
   | (rw[wI acK];rfl)
   | (rw[wJ acK,ft x])
   | (rw[oR acK acK,qY acK,mT,H6,ft x];rfl)
   | (rw[oR acK acK,wL acK acK,mT,←x9];rfl)
   | (rw[oR acK acK,wM acK acK,mT,H6,S9];rfl)
theorem Su:um Tryz.prog 200 Tryz.f200.ntmps 4 87 3 (Tryz.f200.body.getD .skip):=⟨Tryz.f200,Tryz.func200,rfl,rfl,rfl,acL,ja,ca⟩
theorem yF (t:Bool):∀(m:Nat)(r:Rx),r.size≤m→m≤137438953472→aR r=true→ak Tryz.prog 200 [rx r,bool t] (.p (rx (aL t r))):=by
 refine fun m=>Nat.strongRecOn m fun m ih=>?_
 intro r hm hmm hv;have hl:=ea r;have hsy:=eA r;have hb:=vH t r.kids;have hse:=size_eq r;have hK:∀x∈r.kids.map (aL t),Nf x:=fun x hx=>by
  obtain⟨y,hy,rfl⟩:=aaG.1 hx;exact qg t y (im hv y hy)
 have h5l:r.kind=5→0<(r.kids.map (aL t)).length:=fun h=>by rw[aai,(lL hv h).2];decide
 have kb:∀i,i<r.kids.length→ak Tryz.prog 200 [rx (r.kids.getD i default),bool t] (.p (rx (aL t (r.kids.getD i default)))):=fun i hi =>
  ih _ (aaT (ij hi) hm) _ (aak _) (by have:=ij hi;omega) (im hv _ (aQ hi))
 rw[ft r];refine ey Su (aah J) fun w0 M0 aa=>?_
 refine c4 [2,1005,7,4] [1,2,4,5,9,10,11] [4,5] ?_;refine lr (fun zl zo zm zs=>∃i:Nat,zm=r.kids.length-i∧(i≤r.kids.length)∧zs=eJ 47 [(5,.own 5),(11,vvw (int i))] zl [(5,.arr 87 (((r.kids.take i).map (aL t)).map rx))] zo) ?_ ?_;exact⟨_,0,rfl,aan _,rfl⟩;rintro zm zs ⟨i,rfl,aY,rfl⟩;refine wS [3006] [1,2,4,5,9,10,11,12] [4,5] ?_ ?_<;>intro h1;refine wA [7,9] [1,2,4,9,10,11,15,16,17] [4,5] ?_;refine oC J J J J (kb _ acK) ?_;refine wA [0,1000,5,9002] [1,2,4,5,9,10,11] [4,5] ?_;exact⟨_,⟨i+1,rfl,acK,by rw[bD acK,aas,aas];rfl⟩,acK⟩;refine wA [8] [1,2,4,5] [4,5] ?_;rw[show r.kids.take i=r.kids from aaB acK];refine wS [3012] [1,2,4,5,23,24] [4,5] ?_ ?_<;>intro h2;refine wS [3007] [4,5,26] [4,5] ?_ ?_<;>intro h3;refine wA [3] [4,5,27] [4,5] ?_;refine oS J (A2 (cells:=Xx) Sn J J J J J J ca acM (by rw[aai];omega) aa) J ?_;refine wA [3] [4,5] [4,5] ?_;refine aI 47 [(4,_),(5,_)] [(4,_)] aa J ⟨.inl J,.inr ⟨_,_,rfl,rfl,rfl⟩,trivial⟩ ⟨rfl,trivial⟩ ?_;refine gz [2] [4,29] [4] ?_;refine oN J J J J J (by first|exact tK (l:=(r.kids.map (aL t)).reverse) (by rw[q7];omega)|exact tK (l:=r.kids.map (aL t)) acK) ?_;refine wZ [6] ?_;refine aA J ?_;rotate_left;refine wA [4] [4,5] [4,5] ?_;refine aI 47 [(4,_),(5,_)] [(4,_)] aa J ⟨.inl J,.inr ⟨_,_,rfl,rfl,rfl⟩,trivial⟩ ⟨rfl,trivial⟩ ?_;refine gz [2] [4,29] [4] ?_;refine oN J J J J J (by first|exact tK (l:=(r.kids.map (aL t)).reverse) (by rw[q7];omega)|exact tK (l:=r.kids.map (aL t)) acK) ?_;refine wZ [6] ?_;refine aA J ?_;rotate_left;refine wS [3007] [2,4,5,23,31] [4,5] ?_ ?_<;>intro h4;refine wA [2] [4,5] [4,5] ?_;refine aI 47 [(4,_),(5,_)] [(4,_)] aa J ⟨.inl J,.inr ⟨_,_,rfl,rfl,rfl⟩,trivial⟩ ⟨rfl,trivial⟩ ?_;refine gz [2] [4,33] [4] ?_;refine oN J J J J J (Of (l:=r.kids.map (aL t)) acK) ?_;refine wZ [6] ?_;refine aA J ?_;rotate_left;refine wS [3007] [2,4,5,35] [4,5] ?_ ?_<;>intro h5;refine wA [2] [4,5] [4,5] ?_;refine aI 47 [(4,_),(5,_)] [(4,_)] aa J ⟨.inl J,.inr ⟨_,_,rfl,rfl,rfl⟩,trivial⟩ ⟨rfl,trivial⟩ ?_;refine gz [2] [4,37] [4] ?_;refine oP J (dS J Tryz.underlying85 ca J J (by have:=h5l acK;omega) (fun _=>rfl)) ?_;refine wA [1] [4,39] [4] ?_;refine oN J J J J J (Bk (x:=(r.kids.map (aL t)).getD 0 default) (fun h4=>by have:=((hK _ (aQ (h5l acK))).k4 h4).2.1;omega)) ?_;refine wZ [6] ?_;refine aA J ?_;rotate_left;refine wA [2005,4] [4,42,44] [4] ?_;refine oE J J J J J J (fj acK) ?_;refine wA [1] [4,46] [4] ?_;refine cT acL ?_;refine dE J (aW J J J ca J J J J acM J J aa) ?_;refine fe ?_;refine Db [2] ?_;refine aA J ?_;rotate_left
 all_goals
  first
   | (rw[AO acK acN];rfl)
   | (rw[AP acK acN];rfl)
   | (rw[kY acK];rfl)
   | (rw[kZ acK];rfl)
   | (rw[j2 acK acK acK,mT];rfl)
theorem Sv:um Tryz.prog 146 Tryz.f146.ntmps 2 87 3 (Tryz.f146.body.getD .skip):=⟨Tryz.f146,Tryz.func146,rfl,rfl,rfl,acL,ja,ca⟩
variable{r:Rx}
theorem ET (h:r.size≤137438953472):ak Tryz.prog 146 [rx r] (.p (rx (if aR r then aL false r else dI))):=by
 refine ey Sv (aah J) fun w0 M0 aa=>?_
 refine c4 [2,7] [1,2,3] [2] ?_;refine oC J J J J (mB _ _ (aak _) acK) ?_;refine wS [3003] [1,2,5] [2] ?_ ?_<;>intro h1;refine wZ [9] ?_;refine aA J ?_;rotate_left;refine wA [6] [2,7] [2] ?_;refine oC J J J J (yF _ _ _ (aak _) acK (by simpa using h1)) ?_;refine wZ [4] ?_;refine aA J ?_;rotate_left
 all_goals
  first|(rw[if_pos acN];rfl)|(rw[if_neg (by rw[h1];decide)];rfl)
theorem V8:um Tryz.prog 186 Tryz.f186.ntmps 2 87 3 (Tryz.f186.body.getD .skip):=⟨Tryz.f186,Tryz.func186,rfl,rfl,rfl,acL,ja,ca⟩
theorem Og (h:r.size≤137438953472):ak Tryz.prog 186 [rx r] (.p (rx (if aR r then aL true r else dI))):=by
 refine ey V8 (aah J) fun w0 M0 aa=>?_
 refine c4 [2,7] [1,2,3] [2] ?_;refine oC J J J J (mB _ _ (aak _) acK) ?_;refine wS [3003] [1,2,5] [2] ?_ ?_<;>intro h1;refine wZ [9] ?_;refine aA J ?_;rotate_left;refine wA [6] [2,7] [2] ?_;refine oC J J J J (yF _ _ _ (aak _) acK (by simpa using h1)) ?_;refine wZ [4] ?_;refine aA J ?_;rotate_left
 all_goals
  first|(rw[if_pos acN];rfl)|(rw[if_neg (by rw[h1];decide)];rfl)
abbrev V9:=dF 2 Tryz.func256
theorem EU {x:Int}:ak Tryz.prog 256 [int x] (.p (bool false)):=by
 refine cF V9 fun w0 M0 aa=>?_
 refine AD [8014] ?_;rw[decide_eq_true rfl];rfl
abbrev Wa:=dF 4 Tryz.func255
theorem KA {x y:Int}:ak Tryz.prog 255 [int x,int y] (.p (bool (decide (x<y)))):=by
 refine cF Wa fun w0 M0 aa=>?_
 refine c4 [8] [0,1,5] [] ?_;refine oP J (ia (b':=false) J J J (sA) aa (rfl)) ?_;refine wZ [8014] ?_;rfl
theorem Wd:F7 Tryz.prog 237 Tryz.f237.ntmps 4 5 (Tryz.f237.body.getD .skip):=⟨Tryz.f237,Tryz.func237,rfl,rfl,rfl,acL⟩
theorem QR {s:List Int}{a:Int}(hs:qa FW s)(hl:s.length≤1099511627776):ak Tryz.prog 237 [ints s,int a] (.p (.tup [int (Z3 a s),bool (decide (a∈s))])):=by
 refine pM Wd (aah J) fun w0 M0 aa=>?_
 refine c4 [9,12] [0,1,6,7,8] [] ?_;refine lp (fun zm zs=>∃i j:Nat,zm=j-i∧(i≤j)∧(j≤s.length)∧(∀k,k<i→s.getD k default<a)∧(∀k,j≤k→k<s.length→a≤s.getD k default)∧zs=⟨54,[(0,vvz (ints s)),(1,vvz (int a)),(6,vvw (int s.length)),(7,vvw (int i)),(8,vvw (int j))],[]⟩) ?_ ?_;exact⟨_,0,s.length,rfl,aan _,aak _,fun k hk=>absurd hk acK,fun k hk hk2=>absurd hk acK,rfl⟩;rintro zm zs ⟨i,j,rfl,aY,aq,cY,IK,rfl⟩;refine wS [3008] [0,1,6,7,8,15] [] ?_ ?_<;>intro h1;refine wZ [8,5000] ?_;refine oP J (nC J Tryz.underlying3 Tryz.underlying154 J) ?_;refine wA [0] [0,1,6,7,8,19] [] ?_;refine oP J (LS J J J acK) ?_;refine oP J (du (a':=((i+j) / 2:Nat)) (nC J Tryz.underlying154 Tryz.underlying3 J) (Te acK)) ?_;refine wA [7,2] [0,1,6,7,8,9,25,26] [] ?_;refine oC J J J J (KA) ?_;refine wS [3002] [0,1,6,7,8,9,27] [] ?_ ?_<;>intro h2;refine wA [3,9003] [0,1,6,7,8] [] ?_;refine⟨_,⟨(i+j) / 2+1,j,rfl,acK,aq,fun k hk=>?_,IK,by rw[show(((i+j) / 2:Nat):Int)+1=(((i+j) / 2+1:Nat):Int) by omega]⟩,acK⟩;rcases aaK k ((i+j) / 2) with q|q
 ·have h5:=jG hs q acK;have:=of_decide_eq_true h5.1;omega
 ·rw[show k=(i+j) / 2 by omega];assumption
 refine wA [9006] [0,1,6,7,8] [] ?_;refine⟨_,⟨i,(i+j) / 2,rfl,acK,acK,cY,fun k hk hk2=>?_,rfl⟩,acK⟩;rcases Nat.eq_or_lt_of_le hk with q|q
 ·rw[←q];omega
 ·have h5:=jG hs q hk2;have:=of_decide_eq_true h5.1;omega
 refine wS [4013] [0,1,7,31,35] [] ?_ ?_<;>intro h3';refine wS [2,4004] [0,1,7,31,35,42] [] ?_ ?_<;>intro h4';refine wZ [16] ?_;refine cu J J ?_;rotate_left;refine wA [2,1] [1,31,35,42,46] [] ?_;refine oP J (ia (b':=false) J J J (EU) aa (rfl)) ?_;refine wZ [11] ?_;refine cu J J ?_;rotate_left;refine wZ [23] ?_;refine cu J J ?_;rotate_left
 all_goals
  have hij:i=j:=acK;refine⟨?_,?_⟩
  ·exact congrArg (fun n:Nat=>int n) (U2 acK cY fun h=>IK _ acK h)
  ·first
   | (rw[decide_eq_true (p:=a∈s) (Tc (i:=i) acK acN)];first|done|rfl|(simp_all;done))
   | (rw[decide_eq_false (p:=a∈s) (U3 hs cY (fun h=>IK _ acK h) (fun h=>by first|assumption|omega))];first|done|rfl|(simp_all;done))
theorem Wg:um Tryz.prog 202 Tryz.f202.ntmps 4 87 3 (Tryz.f202.body.getD .skip):=⟨Tryz.f202,Tryz.func202,rfl,rfl,rfl,acL,ja,ca⟩
theorem ep (h:r.size≤137438953472):ak Tryz.prog 146 [rx r] (.p (rx (dv r))):=ET h
theorem KB (h:r.size≤137438953472):ak Tryz.prog 186 [rx r] (.p (rx (eo r))):=Og h
theorem Wh:um Tryz.prog 150 Tryz.f150.ntmps 4 87 3 (Tryz.f150.body.getD .skip):=⟨Tryz.f150,Tryz.func150,rfl,rfl,rfl,acL,ja,ca⟩
abbrev Wi:=dF 4 Tryz.func183
theorem ni:∀ (m:Nat)(r:Rx),r.size≤m→wd r≤1099511627776→ak Tryz.prog 203 [rx r] (.p (bool (cO r))):=by
 intro m
 induction m with
 | zero=>intro a hr _;have:=size_pos a;omega
 | succ m ih =>
 intro r hr hm;have hkl:=(gT.1 hm).1.2;have hsl:=(gT.1 hm).1.1;rw[ft r];refine cF Sk fun w0 M0 aa=>?_
 refine pW [2,3018] [1,4,5] [] ?_ ?_<;>intro h1;refine wZ [8012] ?_;rotate_left;refine wS [3006] [1,4,5] [] ?_ ?_<;>intro h2;refine wZ [8009] ?_;rotate_left;refine wS [3007] [1,4,8] [] ?_ ?_<;>intro h3;refine wA [5] [11] [] ?_;refine oC J J J J (gN (p:=fun x=>!cO x) acK (fun x hx=>vT (ih _ (abf (aaT (de hx) hr)) (iw hm hx)))) ?_;refine wZ [8007] ?_;rotate_left;refine wS [3007] [1,14] [] ?_ ?_<;>intro h4;refine wA [5] [17] [] ?_;refine oC J J J J (gN (p:=cO) acK (fun x hx=>(ih _ (abf (aaT (de hx) hr)) (iw hm hx)))) ?_;refine wZ [8006] ?_;rotate_left;refine wZ [8010] ?_;rotate_left
 all_goals
  rw[qR];first|(rw[if_pos acK,pY];done)|(rw[if_neg acK,if_pos acK];done)|(rw[if_neg acK,if_neg acK];simp_all;done)|(rw[if_neg acK,if_neg acK,decide_eq_false acK];done)
theorem rT:∀ (m:Nat)(a b:Rx),a.size≤m→wd a≤1099511627776→wd b≤1099511627776→ak Tryz.prog 252 [rx a,rx b] (.p (int (df a b))):=by
 intro m
 induction m with
 | zero=>intro a b hr _ _;have:=size_pos a;omega
 | succ m ih =>
 intro a b ha hwa hwb;have hka:=(gT.1 hwa).1.2;have hsa:=(gT.1 hwa).1.1;have hkb:=(gT.1 hwb).1.2;have hsb:=(gT.1 hwb).1.1;rw[ft a,ft b];refine cF Sm fun w0 M0 aa=>?_
 refine c4 [2,0,2004,4] [2,3,6,8] [] ?_;refine oE J J J J J J (yE) ?_;refine wA [4] [2,3,9,11,13] [] ?_;refine oE J J J J J J (nw acK acK) ?_;refine wA [4] [9,14,16,18] [] ?_;refine oE J J J J J J (Bi acK acK (fun x hx y hy=>ih x y (abf (aaT (de hx) ha)) (iw hwa hx) (iw hwb hy))) ?_;refine wZ [6000,5000] ?_;refine oE J J J J J J (IJ (l:=[bQ a.kind b.kind,bA a.syms b.syms,cE a.kids b.kids]) (by simp)) ?_;refine wZ [8004] ?_;rw[H3]
theorem KC (hl:l.length≤1099511627776)(hs:∀i,i<l.length→(ek (l.take i)).length+(l.getD i default).kids.length+1≤1099511627776):aU Tryz.prog 234 [jM l] (.p (rx (cU l))):=by
 refine bk Ss (aah J) fun w0 M0 aa=>?_
 refine c4 [1007,6,4] [2,3,6,7,8] [2,3] ?_;refine lr (fun zl zo zm zs=>∃i:Nat,zm=l.length-i∧(i≤l.length)∧(∀j,j<i→(l.getD j default).kind≠0)∧zs=eJ 42 [(3,.own 3),(8,vvw (int i))] zl [(3,.arr 87 ((ek (l.take i)).map rx))] zo) ?_ ?_;exact⟨_,0,rfl,aan _,fun j hj=>absurd hj acK,rfl⟩;rintro zm zs ⟨i,rfl,aY,aq,rfl⟩;have hroom:=hs i;refine wS [3006] [2,3,6,7,8,9] [2,3] ?_ ?_<;>intro h1;refine wS [7,3018] [2,3,5,6,7,8,13,18] [2,3,5] ?_ ?_<;>intro h2;refine wZ [14] ?_;refine aA J ?_;rotate_left;refine wS [3007] [2,3,5,6,7,8,13,21] [2,3,5] ?_ ?_<;>intro h3;refine wA [6,9002] [2,3,6,7,8] [2,3] ?_;rotate_left;refine wS [3007] [2,3,5,6,7,8,23] [2,3,5] ?_ ?_<;>intro h4;refine wA [1] [2,3,5,6,7,8] [2,3,5] ?_;have hr:=hroom acK;refine wA [4] [2,6,7,8,25,27] [2,3] ?_;refine oS J (step_append J J J J Tryz.underlying85 ju J J aa (wY (l:=(l.getD i default).kids) J) (by first|(simp only[ll];omega)|omega) (by first|(simp only[ll];omega)|omega)) J ?_;refine wA [6,9002] [2,3,6,7,8] [2,3] ?_;rotate_left;refine wA [1] [2,3,5,6,7,8] [2,3,5] ?_;have hr:=hroom acK;refine wA [3,1000,6,9002] [2,3,6,7,8] [2,3] ?_;rotate_left;refine wS [10,3009] [2,3,31,32] [2,3] ?_ ?_<;>intro h5;refine wZ [10] ?_;refine aA J ?_;rotate_left;refine wS [3007] [2,3,35] [2,3] ?_ ?_<;>intro h6;refine wZ [4,0,6] ?_;refine aA J ?_;rotate_left;refine wA [5] [2,3] [2,3] ?_;refine aI 42 [(2,_),(3,_)] [(2,_)] aa J ⟨.inl J,.inr ⟨_,_,rfl,rfl,rfl⟩,trivial⟩ ⟨rfl,trivial⟩ ?_;refine xP [7] ?_;refine aA J ?_;rotate_left
 all_goals first
  | (
    first|(rw[uz (i:=i) acK acK];rfl)|(rw[nM (fun j hj=>aq j acK)];rw[show ek l=ek (l.take i) by rw[aaB acK]];first|(rw[Gv acK];rfl)|(rw[Gw acK];rfl)|(rw[sj acK acK,mT];rfl));done)
  | (
    exact⟨_,⟨i+1,rfl,acK,bX aq acK,by rw[uy acK];first|(rw[mj acK,aaP];rfl)|(rw[iM acK,aas];rfl)|(rw[ef acK acK,aas];rfl)⟩,acK⟩;done)
theorem n3 {B:Nat}(hB:B≤549755813000)(hl:l.length≤B)(h:(ek l).length≤B)(hw:∀x∈l,wd x≤B):aU Tryz.prog 234 [jM l] (.p (rx (cU l))) :=
 KC acK fun i hi=>by have:=NN h hw i hi;omega
theorem Hb {x y:Rx}(hx:wd x≤1099511627776)(hy:wd y≤1099511627776):ak Tryz.prog 254 [rx x,rx y] (.p (bool (H5 x y))):=by
 refine cF Sq fun w0 M0 aa=>?_
 refine c4 [2,0,7] [5,6] [] ?_;refine oC J J J J (rT _ _ _ (aak _) hx hy) ?_;refine wZ [8005] ?_;rfl
theorem Bl {B:Nat}(hB:B≤549755813000)(hl:l.length≤1099511627776)(ho:GN B l):aU Tryz.prog 235 [jM l] (.p (rx (gW l))):=by
 obtain⟨hS,L9,hw⟩:=ho;have hMl:=NM (c8 l) (dV l);have QQ:∀z∈ke (c8 l) (dV l),wd z≤1099511627776:=fun z hz=>by have:=Qm hS hw z hz;omega
 have hDl:(dW l).length≤1099511627776:=by
   have h1:=wH (eq:=H5) (l:=j1 (ke (c8 l) (dV l)));rw[qX] at h1;show(sO _ _).length≤_;omega
 have V6:=qW (c8 l);refine bk Sr (aah J) fun w0 M0 aa=>?_
 refine c4 [17,5] [0,2,3,4,5] [2,3,4] ?_;refine bG 3 0 11 87 85 aa J J J J ?_;refine bG 4 0 10 3 22 aa J J J J ?_;refine gz [2,4] [2,3,4,5,11,12,13] [2,3,4,10,11] ?_;refine lr (fun zl zo zm zs=>∃i:Nat,zm=l.length-i∧(i≤l.length)∧zs=eJ 81 [(13,vvw (int i))] zl [(10,.arr 3 ((c7 (aX (l.take i))).map int)),(11,.arr 87 ((eZ (aX (l.take i))).map rx))] zo) ?_ ?_;exact⟨_,0,rfl,aan _,rfl⟩;rintro zm zs ⟨i,rfl,aY,rfl⟩;have hb1:=Ql l i;have hb5:=fun(h:i<l.length)=>(gT.1 (hw _ (aQ h))).1
 refine wS [3006] [2,3,4,5,11,12,13,14] [2,3,4,10,11] ?_ ?_<;>intro h1;refine wS [7,3013] [2,3,4,5,7,11,12,13,19] [2,3,4,7,10,11] ?_ ?_<;>intro h2;refine wA [5] [2,3,4,5,11,12,13,20,21] [2,3,4,10,11] ?_;refine oS J (aP [(1000001,4),(1000002,3)] J J J J J J J (tJ (x:=l.getD i default) (s:=c7 (aX (l.take i))) (k:=eZ (aX (l.take i))) (by have:=hb5 acK;omega) acK) ⟨.inl J,.inl J,.inl J,trivial⟩ ⟨rfl,rfl,rfl,rfl,trivial⟩ J J J J J aa) J ?_;refine wA [7,9002] [2,3,4,5,11,12,13] [2,3,4,10,11] ?_;refine⟨_,⟨i+1,rfl,acK,?_⟩,acK⟩;rw[nO acK,jr acK,qU,qV];rfl;refine wA [6] [2,3,4,5,11,12,13,23] [2,3,4,7,10,11] ?_;refine oP J (ES (ae J Ko J J J)) ?_;refine wA [0,4] [2,3,4,5,11,12,13,24,25,26] [2,3,4,10,11] ?_;refine lp (fun zm zs=>∃j:Nat,zm=(l.getD i default).kids.length-j∧(j≤(l.getD i default).kids.length)∧zs=⟨81,[(2,.pbox 2 0),(3,.pbox 3 0),(4,.pbox 4 0),(5,.fn 249 [.bx 4,.bx 3]),(11,vvw (jM l)),(12,vvw (int l.length)),(13,vvw (int i)),(24,vvw (jM (l.getD i default).kids)),(25,vvw (int (l.getD i default).kids.length)),(26,vvw (int j))],[(2,.box 87 [vvw (.sc (.int .i64 0)),vvv,vvv]),(3,.box 85 [.own 11]),(4,.box 22 [.own 10]),(10,.arr 3 ((c7 (aX (l.take i)++(l.getD i default).kids.take j)).map int)),(11,.arr 87 ((eZ (aX (l.take i)++(l.getD i default).kids.take j)).map rx))]⟩) ?_ ?_;refine⟨_,0,rfl,aan _,?_⟩;rw[acJ,aaP];rfl;rintro zm zs ⟨j,rfl,fu,rfl⟩;have hc1:=NL l (i:=i) acK acK j;have hc4:=fun(h:j<(l.getD i default).kids.length)=>(gT.1 (iw (hw _ (aQ acK)) (aQ h))).1
 have hc5:=hb5 acK;refine wS [3006] [2,3,4,5,11,12,13,24,25,26,27] [2,3,4,10,11] ?_ ?_<;>intro h3;refine wA [7,8] [2,3,4,5,11,12,13,24,25,26,30,31] [2,3,4,10,11] ?_;refine oS J (aP [(1000001,4),(1000002,3)] J J J J J J J (tJ (x:=(l.getD i default).kids.getD j default) (s:=c7 (aX (l.take i)++(l.getD i default).kids.take j)) (k:=eZ (aX (l.take i)++(l.getD i default).kids.take j)) (by have:=hc4 acK;omega) acK) ⟨.inl J,.inl J,.inl J,trivial⟩ ⟨rfl,rfl,rfl,rfl,trivial⟩ J J J J J aa) J ?_;refine wA [4,9002] [2,3,4,5,11,12,13,24,25,26] [2,3,4,10,11] ?_;refine⟨_,⟨j+1,rfl,acK,?_⟩,acK⟩;rw[AM acK,AN acK];rfl;refine wA [8,9002] [2,3,4,5,11,12,13] [2,3,4,10,11] ?_;refine⟨_,⟨i+1,rfl,acK,?_⟩,acK⟩;rw[nO acK,gQ acK,show(l.getD i default).kids.take j=(l.getD i default).kids from aaB acK];rfl;refine wA [6] [2,3,4] [2,3,4,10,11] ?_;refine ct (fun zs=>zs=⟨81,[(2,.pbox 2 0),(3,.pbox 3 0)],[(2,.box 87 [vvw (.sc (.int .i64 0)),vvv,vvv]),(3,.box 85 [.own 11]),(11,.arr 87 ((ke (c8 l) (dV l)).map rx))]⟩) ?_ ?_;refine wA [1] [2,3,4] [2,3,4,10,11] ?_;rw[show l.take i=l from aaB acK];refine wS [2,3003] [2,3,4,37] [2,3,4,10,11] ?_ ?_<;>intro h4;refine wA [4] [2,3,4,38] [2,3,4,10,11] ?_;refine oS J (xG Oe J J J J J J wu (by have h1:(c7 (aX l)).length≤B:=hS;omega) aa) J ?_;refine wA [2] [2,3,4] [2,3,4,10,11] ?_;rw[vF];refine kx (n:=81) (o2:=[(2,.box 87 [vvw (.sc (.int .i64 0)),vvv,vvv]),(3,.box 85 [.own 11]),(11,.arr 87 ((dV l).map rx))]) 2 6 [(40,.own 11),(41,.own 10),(42,vvw (ints (sO Pp (jF (c8 l))))),(43,vvw (rx (.mk 2 (sO Pp (jF (c8 l))) []))),(44,vvw (int (dV l).length)),(45,vvw (.sl [.agg [int 0,.sc (.slice none 0 0),.sc (.slice none 0 0)]])),(2,.pbox 2 0),(3,.pbox 3 0),(4,.pbox 4 0)] mixed acL acL acL J acL (fun t d h=>h) J ?_ ?_ ?_ ?_ ?_
 · intro i hi
   rcases(by omega:i=0∨i=1∨i=2∨i=3∨i=4∨i=5) with rfl|rfl|rfl|rfl|rfl|rfl<;>exact⟨_,_,rfl,rfl⟩
 · intro i o t d hi hia ho hd hG hn
   rcases(by omega:i=0∨i=1∨i=3∨i=4∨i=5) with rfl|rfl|rfl|rfl|rfl
   · injection (show some _ = some o from ho) with ho; subst ho; injection (show some _ = some t from hd) with hd; subst hd; injection (show some _ = some d from hG) with hG; subst hG
     exact ae J Ko J J J
   · injection (show some _ = some o from ho) with ho; subst ho; injection (show some _ = some t from hd) with hd; subst hd; injection (show some _ = some d from hG) with hG; subst hG
     exact ae J Kl J J J
   · exact absurd hn acM
   · injection (show some _ = some o from ho) with ho; subst ho; injection (show some _ = some t from hd) with hd; subst hd; injection (show some _ = some d from hG) with hG; subst hG
     exact nD J Tryz.underlying85 J
   · injection (show some _ = some o from ho) with ho; subst ho; injection (show some _ = some t from hd) with hd; subst hd; injection (show some _ = some d from hG) with hG; subst hG
     exact eu J Tryz.underlying85 ju J J J J aa
 · intro i o t d hi hia ho hd hG hn
   rcases(by omega:i=0∨i=1∨i=3∨i=4∨i=5) with rfl|rfl|rfl|rfl|rfl
   · injection (show some _ = some o from ho) with ho; subst ho; injection (show some _ = some t from hd) with hd; subst hd; injection (show some _ = some d from hG) with hG; subst hG
     exact ae J Ko J J J
   · exact absurd hn acM
   · injection (show some _ = some o from ho) with ho; subst ho; injection (show some _ = some t from hd) with hd; subst hd; injection (show some _ = some d from hG) with hG; subst hG
     exact au (aT J GX o3 J J J) J
   · injection (show some _ = some o from ho) with ho; subst ho; injection (show some _ = some t from hd) with hd; subst hd; injection (show some _ = some d from hG) with hG; subst hG
     exact nD J Tryz.underlying85 J
   · injection (show some _ = some o from ho) with ho; subst ho; injection (show some _ = some t from hd) with hd; subst hd; injection (show some _ = some d from hG) with hG; subst hG
     exact eu J Tryz.underlying85 ju J J J J aa
 · intro o X ho e7 dH c6
   have T1:41∈looks _ o→X.lookup 41=some (.own 10):=fun h=>(c6 41 h).trans rfl
   injection (show some _=some o from ho) with ho';obtain⟨s',g1,g2⟩:=DH (o:=o) (f:=122) (ats:=#[22]) (n:=81) (X:=X) (o1:=[(2,.box 87 [vvw (.sc (.int .i64 0)),vvv,vvv]),(3,.box 85 [.own 11]),(4,.box 22 [.own 10]),(10,.arr 3 ((jF (c8 l)).map int)),(11,.arr 87 ((dV l).map rx))]) (o2:=[(2,.box 87 [vvw (.sc (.int .i64 0)),vvv,vvv]),(3,.box 85 [.own 11]),(11,.arr 87 ((dV l).map rx))]) (t:=42) (u:=41) (id:=10) (by rw[←ho'];rfl) (by rw[←ho'];rfl) rfl rfl (T1 (by rw[←ho'];decide)) e7 rfl (o7 (l:=jF (c8 l)) acK) (fun t' d h hne=>DJ (u:=41) (by rfl) (dH t' d h) hne) rfl (JD.out (o1:=[(2,.box 87 [vvw (.sc (.int .i64 0)),vvv,vvv]),(3,.box 85 [.own 11]),(4,.box 22 [.own 10]),(10,.arr 3 ((jF (c8 l)).map int)),(11,.arr 87 ((dV l).map rx))]) (o2:=[(2,.box 87 [vvw (.sc (.int .i64 0)),vvv,vvv]),(3,.box 85 [.own 11]),(11,.arr 87 ((dV l).map rx))]) ⟨⟨_,rfl,rfl⟩,⟨_,rfl,rfl⟩,⟨_,rfl,rfl⟩,trivial⟩) aa;exact⟨42,_,s',by rw[←ho'];rfl,rfl,g1,g2⟩
 refine bM (n:=4) acL ?_;refine xf 6 ?_;refine eN (i:=7) (j:=9) acL J J J J (aN J J (aE J Tryz.underlying85 ca J J J (by first|(simp only[ll];omega)|omega))) (aV J J J Cy J J J J J aa) ?_ ?_;refine eN (i:=8) (j:=9) acL J J J J (ay J J J ca J J (iF rx (dV l) _) J J (.inl J) J (aah J) aa) (aV J J J Cy J J J J J aa) ?_ ?_;refine aJ (i:=9) acL J J (aV J J J Cy J J J J J aa) ?_;refine bf acL ?_;refine iS [10000] [2,3] [2,3,11] ?_;rotate_left;refine aJ (i:=8) acL J J (ay J J J ca J J (iF rx (dV l) _) J J (.inl J) J (aah J) aa) ?_;refine bf acL ?_;refine iS [10000] [2,3] [2,3,11] ?_;rotate_left;refine xe 7 ?_;refine aJ (i:=8) acL J J (ay J J J ca J J (iF rx (dV l) _) J J (.inl J) J (aah J) aa) ?_;refine bf acL ?_;refine iS [10000] [2,3] [2,3,11] ?_;rotate_left;refine wA [10002] [2,3] [2,3,11] ?_;rw[MM (by show ¬0<(c7 (aX l)).length;omega)];rfl;rintro zs ⟨rfl⟩;refine wA [3] [2,3,48] [2,3,11] ?_;refine oS J (ym (cells:=Xx) (cf:=df) (p:=fun z=>wd z≤1099511627776) Od J J J J J J J ca acM QQ (fun a b ha hb=>rT _ a b (aak _) ha hb) n0 (fun a _=>x3 a) (fun a b c _ _ _=>kC a b c) (fun a b _ _=>D6) acK aa) J ?_;refine wA [3] [2,3] [2,3,11] ?_;rw[vE];refine wA [2] [2,3,50] [2,3,11] ?_;refine oS J (aP [(0,11)] J J J J J J J (rS (eq:=H5) (l:=j1 (ke (c8 l) (dV l))) (by rw[qX];omega) (fun x hx y hy=>Hb (QQ _ (lV.1 hx)) (QQ _ (lV.1 hy)))) ⟨.inl J,.inl J,trivial⟩ ⟨rfl,trivial⟩ J J J J J aa) J ?_;refine ku 81 [(2,_),(3,_),(51,_)] [(2,_),(3,_)] aa J ⟨.inl J,.inl J,.inr ⟨_,_,rfl,rfl,rfl⟩,trivial⟩ ⟨rfl,rfl,trivial⟩ ?_;refine Xw [3] [2,3] [2,3] ?_;refine ct (fun zs=>zs=⟨81,[(2,.pbox 2 0),(3,.pbox 3 0)],[(2,.box 87 [vvw (.sc (.int .i64 0)),vvv,vvv]),(3,.box 85 [vvw (jM (kg (dW l)))])]⟩) ?_ ?_;refine wS [3,4002] [2,3,55] [2,3] ?_ ?_<;>intro h5';refine wS [1,4005] [2,3,62] [2,3] ?_ ?_<;>intro h6';refine wZ [1,5000] ?_;refine oC J J J J (gN (p:=cO) (l:=(dW l).drop 1) (by simp;omega) (fun x hx=>ni _ _ (aak _) (QQ _ (tn (aa0 hx))))) ?_;refine wS [3003] [2,3,66] [2,3] ?_ ?_<;>intro h7;refine wA [3,10002] [2,3] [2,3] ?_;rotate_left;refine wA [10002] [2,3] [2,3] ?_;rotate_left;refine wA [10008] [2,3] [2,3] ?_;rotate_left;refine wA [10015] [2,3] [2,3] ?_;rotate_left;rintro zs ⟨rfl⟩;refine wS [4,3009] [2,3,70,71] [2,3] ?_ ?_<;>intro h8;refine wZ [10] ?_;refine aA J ?_;rotate_left;refine wS [3007] [2,3,74] [2,3] ?_ ?_<;>intro h9;refine wZ [4,7] ?_;refine aA J ?_;rotate_left;refine wZ [12] ?_;refine aA J ?_;rotate_left
 all_goals first
  | (
    have h4u:0<(c8 l).length:=by show 0<(c7 (aX l)).length;omega
    rw[ML h4u,←xX (z:=.agg [int 0,.sc (.slice none 0 0),.sc (.slice none 0 0)])];rfl;done)
  | (
    first
      | (rw[x6 (k:=dW l) (by show 1<(sO H5 (j1 (ke (c8 l) (dV l)))).length;omega) h6' h7];rfl)
      | (rw[mn (k:=dW l) (fun q=>absurd q.1 (by show ¬1<(sO H5 (j1 (ke (c8 l) (dV l)))).length;omega))];rfl)
      | (rw[mn (k:=dW l) (fun q=>h6' q.2.1)];rfl)
      | (rw[mn (k:=dW l) (fun q=>by rw[q.2.2] at h7;cases h7)];rfl);done)
  | (
    first
      | (rw[show gW l=dI from Gy (k:=kg (dW l)) acK];rfl)
      | (rw[show gW l=_ from Ca (k:=kg (dW l)) acK];rfl)
      | (rw[show gW l=_ from x5 (k:=kg (dW l)) acK acK,mT];rfl);done)
end Go.Proofs.YtlapahnodhmcpaaGreat
