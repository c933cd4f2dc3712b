/-
  Part of the proof.
-/
import Derived.Test.YtlapahnodhmcpaaGreatX11
set_option linter.unusedVariables false
set_option linter.unusedSectionVars false
set_option linter.unusedSimpArgs false
set_option maxRecDepth 100000
set_option maxHeartbeats 40000000
namespace Go.Wf
open Go.Am Go.Wb Go.Wc
def okB (g:aA)(cl cn:List UInt8):Bool:=decide (0≤(bk g cl).strip)&&decide ((bk g cl).strip≤24)&&decide ((bR g cl cn).pre.length≤24)&&decide ((bR g cl cn).suf.length≤24)&&gH (bR g cl cn).pre&&gH (bR g cl cn).suf&&aT (bk g cl).fits
theorem UG (g:aA)(cl cn:List UInt8):j4 g cl cn=(okB g cl cn&&(bq g (bR g cl cn).change).all bK&&(bq g g.order).all bK):=by unfold j4 okB u2;generalize decide (0≤(bk g cl).strip)=a1;generalize decide ((bk g cl).strip≤24)=a2;generalize decide ((bR g cl cn).pre.length≤24)=a3;generalize decide ((bR g cl cn).suf.length≤24)=a4;generalize gH (bR g cl cn).pre=a5;generalize gH (bR g cl cn).suf=a6;generalize aT (bk g cl).fits=a7;cases a1<;>cases a2<;>cases a3<;>cases a4<;>cases a5<;>cases a6<;>cases a7<;>rfl
variable{i:Nat}
theorem all_succ {α:Type} [Inhabited α]{p:α→Bool}{l:List α}(h:i<l.length):(l.take (i+1)).all p=((l.take i).all p&&p (l.getD i default)):=by rw[take_succ h,List.all_append];simp
def OM (g:aA)(cl cn:List UInt8)(i:Nat):Bool:=okB g cl cn&&((bq g (bR g cl cn).change).take i).all bK
def PR (g:aA)(cl cn:List UInt8)(i:Nat):Bool:=OM g cl cn (bq g (bR g cl cn).change).length&&((bq g g.order).take i).all bK
variable{g:aA}{cl cn:List UInt8}
theorem XM :OM g cl cn 0=okB g cl cn:=by unfold OM;rw[adg,List.all_nil,Bool.and_true]
theorem XN :PR g cl cn 0=OM g cl cn (bq g (bR g cl cn).change).length:=by unfold PR;rw[adg,List.all_nil,Bool.and_true]
theorem ON (h:i<(bq g (bR g cl cn).change).length):OM g cl cn (i+1)=(OM g cl cn i&&bK ((bq g (bR g cl cn).change).getD i default)):=by unfold OM;rw[all_succ h,Bool.and_assoc]
theorem OO (h:i<(bq g g.order).length):PR g cl cn (i+1)=(PR g cl cn i&&bK ((bq g g.order).getD i default)):=by unfold PR;rw[all_succ h,Bool.and_assoc]
theorem Ta (i:Nat)(hi:(bq g g.order).length≤i){z:Bool}(h:PR g cl cn i=z):j4 g cl cn=z:=by rw[UG,←h];unfold PR OM;rw[aa2 hi,abK]
theorem XO (h:(nh (bk g cl) cn).isSome=false):iR g cl cn=false:=by unfold iR;rw[h,ab5];rfl
end Go.Wf
namespace Go.Proofs.YtlapahnodhmcpaaGreat
open Go.Am Go.Wb Go.Wc Go.Wf Go.We
theorem XP:R4 Tryz.prog 112 Tryz.f112.ntmps 6 7 8 (Tryz.f112.body.getD .skip):=⟨Tryz.f112,Tryz.func112,rfl,rfl,rfl,adi⟩
variable{g:aA}{cl:List UInt8}
theorem o9 (hl:g.classes.length≤1099511627776):aV Tryz.prog 78 [cD g,ak cl] (.p (.tup [bj (bk g cl),bool (fR g cl).isSome])):=Fk hl
theorem vX {cn:List UInt8}(hl:(bk g cl).cells.length≤1099511627776):aV Tryz.prog 113 [bj (bk g cl),ak cn] (.p (.tup [cu (bR g cl cn),bool (nh (bk g cl) cn).isSome])):=HA hl
theorem tO {cn:List UInt8}(hg:mB g):aV Tryz.prog 112 [cD g,ak cl,ak cn] (.p (.tup [.sl ((if hU g cl cn=0 then bq g (bR g cl cn).change else[]).map aZ),.sl ((if hU g cl cn=0 then bq g g.order else[]).map aZ),int (hU g cl cn)])):=by
 have hch:(bq g (bR g cl cn).change).length≤1000:=abb kN (jB hg cl cn).change;have hod:(bq g g.order).length≤1000:=abb kN hg.order;refine pN XP (aaz J) fun w0 M0 ae=>?_
 refine db [2,9] [2,3,21,22] [] ?_;refine oN J J J J J (o9 (by have:=hg.nclasses;omega)) ?_;refine wA [9] [2,3,9,10] [9] ?_;refine aD 127 [(2,_),(3,_),(9,_),(10,_)] [] ae J ⟨.inl J,.inl J,.inr ⟨_,_,rfl,rfl,rfl⟩,.inl J,trivial⟩ trivial ?_;refine gV [3] [3,9,10,27,28] [] ?_;refine oN J J J J J (vX (by have:=(lz hg cl).cells;omega)) ?_;refine wA [9] [3,9,10,11,12] [11] ?_;refine aD 127 [(3,_),(9,_),(10,_),(11,_),(12,_)] [] ae J ⟨.inl J,.inl J,.inl J,.inr ⟨_,_,rfl,rfl,rfl⟩,.inl J,trivial⟩ trivial ?_;refine gV [4] [3,9,10,11,12,33,35] [] ?_;refine oN J J J J J (vV (l:=(bR g cl cn).change) (by have:=hg.nrules;omega) (by have:=(jB hg cl cn).change;omega)) ?_;refine wA [12] [9,10,11,12,13,14,40,42] [] ?_;refine oN J J J J J (vV (l:=g.order) (by have:=hg.nrules;omega) (by have:=hg.order;omega)) ?_;refine wS [4013] [9,11,12,13,14,15,16,48] [] ?_ ?_<;>intro h1';refine wZ [23] ?_;refine gz J J J ?_;rotate_left;refine wS [4004] [9,11,13,14,15,16,52] [] ?_ ?_<;>intro h2';refine wZ [19] ?_;refine gz J J J ?_;rotate_left;refine wS [4004] [9,11,13,15,16,56] [] ?_ ?_<;>intro h3';refine wZ [15] ?_;refine gz J J J ?_;rotate_left;refine wS [3005] [9,11,13,15,59] [] ?_ ?_<;>intro h4;refine wZ [10] ?_;refine gz J J J ?_;rotate_left;refine wA [3] [9,11,13,15] [] ?_;refine ct (fun zs=>∃z:Bool,(z=(okB g cl cn))∧zs=⟨127,[(13,vvw (.sl ((bq g (bR g cl cn).change).map aZ))),(15,vvw (.sl ((bq g g.order).map aZ))),(17,vvw (bool z))],[]⟩) ?_ ?_;refine wS [4005] [9,11,13,15,63] [] ?_ ?_<;>intro h5';refine wS [4005] [9,11,13,15,68] [] ?_ ?_<;>intro h6';refine wS [2,4003] [9,11,13,15,74] [] ?_ ?_<;>intro h7';refine wS [2,4003] [9,11,13,15,80] [] ?_ ?_<;>intro h8';refine wA [2] [9,11,13,15,80,82] [] ?_;refine oC J J J J (nA (w:=(bR g cl cn).pre) (by have:=(jB hg cl cn).pre;omega)) ?_;refine wS [4002] [9,11,13,15,85] [] ?_ ?_<;>intro h9';refine wA [2] [9,13,15,85,87] [] ?_;refine oC J J J J (nA (w:=(bR g cl cn).suf) (by have:=(jB hg cl cn).suf;omega)) ?_;refine wS [4002] [9,13,15,90] [] ?_ ?_<;>intro h10';refine wA [2] [13,15,90,92] [] ?_;refine oC J J J J (lf _ (bk g cl).fits (aaD _) (by have:=(lz hg cl).fits;omega)) ?_;refine wA [10003] [13,15,17] [] ?_;rotate_left;refine wA [10006] [13,15,17] [] ?_;rotate_left;refine wA [10011] [13,15,17] [] ?_;rotate_left;refine wA [10016] [13,15,17] [] ?_;rotate_left;refine wA [10022] [13,15,17] [] ?_;rotate_left;refine wA [10028] [13,15,17] [] ?_;rotate_left;refine wA [10033] [13,15,17] [] ?_;rotate_left;rintro zs ⟨z,vN,rfl⟩;refine wA [7] [13,15,17,18] [] ?_;subst vN;refine lp (fun zm zs=>∃i:Nat,zm=(bq g (bR g cl cn).change).length-i∧(i≤(bq g (bR g cl cn).change).length)∧zs=⟨127,[(13,vvw (.sl ((bq g (bR g cl cn).change).map aZ))),(15,vvw (.sl ((bq g g.order).map aZ))),(17,vvw (bool (OM g cl cn i))),(18,vvw (int i))],[]⟩) ?_ ?_;exact⟨_,0,rfl,aaG _,by rw[XM];rfl⟩;rintro zm zs ⟨i,rfl,aY,rfl⟩;refine wS [5,3003] [13,15,17,18,98] [] ?_ ?_<;>intro h11;refine wS [4008] [13,15,18,102] [] ?_ ?_<;>intro h12';refine wA [2,1] [13,15,18,102,106] [] ?_;refine oC J J J J (o4 (r:=(bq g (bR g cl cn).change).getD i default) (by have:=(hg.rules _ (gX (aO (by omega:i<(bq g (bR g cl cn).change).length)))).pairs;omega) (fun p hp=>abb ((hg.rules _ (gX (aO (by omega:i<(bq g (bR g cl cn).change).length)))).dst p hp) adj) (by have:=(hg.rules _ (gX (aO (by omega:i<(bq g (bR g cl cn).change).length)))).left;omega) (by have:=(hg.rules _ (gX (aO (by omega:i<(bq g (bR g cl cn).change).length)))).right;omega)) ?_;refine wA [7,9002] [13,15,17,18] [] ?_;rotate_left;refine wA [12,9002] [13,15,17,18] [] ?_;rotate_left;refine wA [13] [13,15,17,19] [] ?_;obtain rfl:i=(bq g (bR g cl cn).change).length:=adh;refine lp (fun zm zs=>∃i:Nat,zm=(bq g g.order).length-i∧(i≤(bq g g.order).length)∧zs=⟨127,[(13,vvw (.sl ((bq g (bR g cl cn).change).map aZ))),(15,vvw (.sl ((bq g g.order).map aZ))),(17,vvw (bool (PR g cl cn i))),(19,vvw (int i))],[]⟩) ?_ ?_;exact⟨_,0,rfl,aaG _,by rw[XN];rfl⟩;rintro zm zs ⟨i,rfl,gi,rfl⟩;refine wS [5,3003] [13,15,17,19,112] [] ?_ ?_<;>intro h13;refine wS [4008] [13,15,19,116] [] ?_ ?_<;>intro h14';refine wA [2,1] [13,15,19,116,120] [] ?_;refine oC J J J J (o4 (r:=(bq g g.order).getD i default) (by have:=(hg.rules _ (gX (aO (by omega:i<(bq g g.order).length)))).pairs;omega) (fun p hp=>abb ((hg.rules _ (gX (aO (by omega:i<(bq g g.order).length)))).dst p hp) adj) (by have:=(hg.rules _ (gX (aO (by omega:i<(bq g g.order).length)))).left;omega) (by have:=(hg.rules _ (gX (aO (by omega:i<(bq g g.order).length)))).right;omega)) ?_;refine wA [7,9002] [13,15,17,19] [] ?_;rotate_left;refine wA [12,9002] [13,15,17,19] [] ?_;rotate_left;refine wS [3013] [13,15,124] [] ?_ ?_<;>intro h15;refine wZ [10] ?_;refine gz J J J ?_;rotate_left;refine wZ [13] ?_;refine gz J J J ?_;rotate_left
 all_goals first
  | (
    first
      | (rw[vW (S7 adk)];exact⟨rfl,rfl,rfl⟩)
      | (rw[vW (XO adk)];exact⟨rfl,rfl,rfl⟩)
      | (rw[vW (S8 adk)];exact⟨rfl,rfl,rfl⟩)
      | (rw[vW (S9 adk)];exact⟨rfl,rfl,rfl⟩)
      | (rw[Jd (Bt adk adk adk adk) (Ta i adh adk)];exact⟨rfl,rfl,rfl⟩)
      | (rw[S6 (Bt adk adk adk adk) (Ta i adh adk)];exact⟨rfl,rfl,rfl⟩);done)
  | (
    exact⟨_,by unfold okB;simp_all;first|done|omega,rfl⟩;done)
  | (
    refine⟨_,⟨i+1,rfl,adh,?_⟩,adh⟩;rw[ON adh];first|(rw[show OM g cl cn i=true by assumption,abS];rfl)|(rw[show OM g cl cn i=false by assumption,ab1];rfl);done)
  | (
    refine⟨_,⟨i+1,rfl,adh,?_⟩,adh⟩;rw[OO adh];first|(rw[show PR g cl cn i=true by assumption,abS];rfl)|(rw[show PR g cl cn i=false by assumption,ab1];rfl);done)
end Go.Proofs.YtlapahnodhmcpaaGreat
namespace Go.Wf
open Go.Am Go.Wb Go.Wc
def fz (l:List Int):Int:=l.getD (l.length-1) default
def nL (w:List Int)(i:Nat):Int:=((hJ (w.take i)).length:Nat)
def fi (w:List Int):Nat→List Int
 | 0=>[]
 | i+1=>if w.getD i default=63 then(if nL w i=0∨nL w i=((hJ w).length:Nat)∨(0<(fi w i).length∧fz (fi w i)=nL w i) then fi w i else fi w i++[nL w i]) else fi w i
def K8 (w:List Int):List Int:=fi w w.length
variable{w:List Int}{i:Nat}
theorem CT (h:i<w.length)(hx:w.getD i default≠63):nL w (i+1)=nL w i+1:=by unfold nL;rw[l3 h,if_neg hx];simp
theorem xa (h:i<w.length)(hx:w.getD i default=63):nL w (i+1)=nL w i:=by unfold nL;rw[l3 h,if_pos hx];simp
theorem CU (hx:w.getD i default≠63):fi w (i+1)=fi w i:=if_neg hx
theorem ql (hx:w.getD i default=63)(h:nL w i=0∨nL w i=((hJ w).length:Nat)∨(0<(fi w i).length∧fz (fi w i)=nL w i)):fi w (i+1)=fi w i:=by rw[fi,if_pos hx,if_pos h]
theorem yX (hx:w.getD i default=63)(h:¬(nL w i=0∨nL w i=((hJ w).length:Nat)∨(0<(fi w i).length∧fz (fi w i)=nL w i))):fi w (i+1)=fi w i++[nL w i]:=by rw[fi,if_pos hx,if_neg h]
theorem CV (w:List Int):∀i,(fi w i).length≤i
 | 0=>aaD _
 | i + 1 => by
   have:=CV w i;rw[fi];split
   · split
     · omega
     · rw[aaM];show _+1≤_;omega
   · omega
theorem Fs {l:List Int}:l.getD ((l.length:Int)-1).toNat default=fz l:=by unfold fz;rw[show((l.length:Int)-1).toNat=l.length-1 by omega]
end Go.Wf
namespace Go.Proofs.YtlapahnodhmcpaaGreat
open Go.Am Go.Wb Go.Wc Go.Wf Go.We
theorem XQ:Gd Tryz.prog 117 Tryz.f117.ntmps 2 3 (Tryz.f117.body.getD .skip):=⟨Tryz.f117,Tryz.func117,rfl,rfl,rfl,adi⟩
theorem Ft {w:List Int}(hw:w.length≤1048576):au Tryz.prog 117 [ints w] (.p (.tup [ints (hJ w),ints (K8 w)])):=by
 refine pE XQ (aaz J) fun w0 M0 ae=>?_
 refine db [1008,1004,9] [0,4,5,6] [4,5] ?_;refine lr (fun zl zo zm zs=>∃i:Nat,zm=w.length-i∧(i≤w.length)∧zs=eV 71 [(6,vvw (int i))] zl [(4,.arr 3 ((hJ (w.take i)).map int)),(5,.arr 3 [])] zo) ?_ ?_;exact⟨_,0,rfl,aaG _,rfl⟩;rintro zm zs ⟨i,rfl,aY,rfl⟩;have hl:=tL (w.take i);have hl2:(w.take i).length=i:=by rw[aaO];omega
 refine wS [5,3003] [0,4,5,6,13] [4,5] ?_ ?_<;>intro h1;refine wS [9,3004] [0,4,5,6,20] [4,5] ?_ ?_<;>intro h2;refine wA [5,1,1000,6,9002] [0,4,5,6] [4,5] ?_;rotate_left;refine wA [6,9002] [0,4,5,6] [4,5] ?_;rotate_left;refine wA [18] [0,4,5,7,8] [4,5] ?_;rw[aa2 (show w.length≤i by omega)];refine lr (fun zl zo zm zs=>∃i:Nat,zm=w.length-i∧(i≤w.length)∧zs=eV 71 [(7,vvw (int (nL w i))),(8,vvw (int i))] zl [(4,.arr 3 ((hJ w).map int)),(5,.arr 3 ((fi w i).map int))] zo) ?_ ?_;exact⟨_,0,rfl,aaG _,rfl⟩;rintro zm zs ⟨i,rfl,gi,rfl⟩;have hc:=CV w i;have hl:=tL (w.take i);have hl2:(w.take i).length=i:=by rw[aaO];omega
 have hn:0≤nL w i∧nL w i≤i:=⟨Int.natCast_nonneg _,by unfold nL;omega⟩;have hg:=Fs (l:=fi w i);refine wS [5,3003] [0,4,5,7,8,31] [4,5] ?_ ?_<;>intro h3;refine wS [10,3004] [0,4,5,7,8,38] [4,5] ?_ ?_<;>intro h4;refine wA [4,9,9002] [0,4,5,7,8] [4,5] ?_;rotate_left;refine wS [4008] [0,4,5,7,8,43] [4,5] ?_ ?_<;>intro h5';refine wS [12,3003] [0,4,5,7,8,9,51] [4,5] ?_ ?_<;>intro h6;refine wA [28,9002] [0,4,5,7,8] [4,5] ?_;rotate_left;refine wA [15,9002] [0,4,5,7,8] [4,5] ?_;rotate_left;refine wS [2,9,3003] [0,4,5,7,8,9,51] [4,5] ?_ ?_<;>intro h7;refine wS [4004] [0,4,5,7,8,53] [4,5] ?_ ?_<;>intro h8';refine wA [24,9002] [0,4,5,7,8] [4,5] ?_;rotate_left;refine wS [2,0,0,0,3012] [0,4,5,7,8,64] [4,5] ?_ ?_<;>intro h9;refine wA [4,1000,6,9002] [0,4,5,7,8] [4,5] ?_;rotate_left;refine wA [6,9002] [0,4,5,7,8] [4,5] ?_;rotate_left;refine wS [3009] [0,4,5,7,8,64] [4,5] ?_ ?_<;>intro h10;refine wA [4,1000,6,9002] [0,4,5,7,8] [4,5] ?_;rotate_left;refine wA [6,9002] [0,4,5,7,8] [4,5] ?_;rotate_left;refine wZ [15] ?_;refine b9 J J ?_;rw[show i=w.length by omega];exact⟨rfl,rfl⟩
 all_goals first
  | (
    exact⟨_,⟨i+1,rfl,adh,by rw[l3 adh];first|(rw[if_pos adh,abe];rfl)|(rw[if_neg adh,aaK];rfl)⟩,adh⟩;done)
  | (
    refine⟨_,⟨i+1,rfl,adh,?_⟩,adh⟩
    first
      | (rw[CT adh adh,CU adh];rfl)
      | (rw[xa adh adh,ql adh adh];rfl)
      | (rw[xa adh adh,yX adh adh,aaK];rfl);done)
abbrev Zz:=dT 4 Tryz.func14
theorem cX {n most:Int}(hn:Ss n)(hm:0<most):au Tryz.prog 14 [int n,int most] (.p (int (bw n most))):=by
 obtain⟨hn1,hn2⟩:=hn;refine cF Zz fun w0 M0 ae=>?_
 refine pO [3012] [0,1,6] [] ?_ ?_<;>intro h1;refine wZ [3,5000] ?_;refine oP J (L2 J J adh) ?_;refine wZ [7,8004] ?_;rotate_left;refine wZ [7,8004] ?_;rotate_left
 all_goals
  unfold bw;first|rw[if_pos adk]|rw[if_neg adk]
abbrev ZA:=dT 6 Tryz.func39
theorem iL {l:List Int}{i most:Int}(hl:iK l)(hm:0<most):au Tryz.prog 39 [ints l,int i,int most] (.p (int (nw l i most))):=by
 have hl':=hl.get i.toNat;refine cF ZA fun w0 M0 ae=>?_
 refine pO [4011] [0,1,2,9] [] ?_ ?_<;>intro h1';refine wZ [8015] ?_;rotate_left;refine wS [2,3004] [0,1,2,14] [] ?_ ?_<;>intro h2;refine wZ [8008] ?_;rotate_left;refine wA [7,2] [18,19] [] ?_;refine oC J J J J (cX adk adh) ?_;refine wZ [8004] ?_;rotate_left
 all_goals
  unfold nw;first|(rw[if_pos adh])|(rw[if_neg adh])
end Go.Proofs.YtlapahnodhmcpaaGreat
namespace Go.Wf
open Go.Am Go.Wb Go.Wc
def aB (l:List Int)(i:Nat):Int:=if l.length=0 then 0 else bw (l.getD ((i:Int) % (l.length:Int)).toNat default) 1048576+19*((i:Int) / (l.length:Int))
theorem xb (l:List Int)(i:Nat):0≤aB l i∧aB l i≤1048576+19*i:=by
 unfold aB;split
 ·omega
 ·have hq1:0≤(i:Int) / (l.length:Int):=Int.ediv_nonneg adh adh;have hq2:(i:Int) / (l.length:Int)≤i:=Int.ediv_le_self _ adh;have:=gO (n:=l.getD ((i:Int) % (l.length:Int)).toNat default) (most:=1048576) adj;omega
def XR (A:Nat)(n:Int)(i:Nat):Int:=(n / 7+n / 11*(i:Int)) % (A:Int)
def fT (A:Nat)(n most:Int):List Int:=(List.range (n % (most+1)).toNat).map (XR A n)
def tP (A:Nat)(l:List Int):List Int:=(l.take 12).map fun x=>bw x A
theorem K9 {l:List Int}{i:Nat}(h:i≤l.length)(h2:i≤12)(h3:¬(i<l.length∧i<12)):l.take 12=l.take i:=by
 rcases aa9 i 12 with h4|h4
 ·rw[aa2 adh,aa2 adh]
 ·rw[show i=12 by omega]
end Go.Wf
namespace Go.Proofs.YtlapahnodhmcpaaGreat
open Go.Am Go.Wb Go.Wc Go.Wf Go.We
abbrev ZB:=dT 4 Tryz.func62
theorem fj {l:List Int}{i:Nat}(h64:iK l)(hl:l.length≤9223372036854775807)(hi:i≤1000):au Tryz.prog 62 [ints l,int i] (.p (int (aB l i))):=by
 refine cF ZB fun w0 M0 ae=>?_
 refine pO [9,3003] [0,1,7] [] ?_ ?_<;>intro h1;refine wZ [8008] ?_;rotate_left;have hlen:0<(l.length:Int):=adh;have hr1:=Int.emod_nonneg (i:Int) (show(l.length:Int)≠0 by omega);have hr2:=ac8 (i:Int) hlen;have hq1:0≤(i:Int) / (l.length:Int):=Int.ediv_nonneg adh adh;have hq2:(i:Int) / (l.length:Int)≤i:=Int.ediv_le_self _ adh;have ha:=gO (n:=l.getD ((i:Int) % (l.length:Int)).toNat default) (most:=1048576) adj;refine wA [2004,6003,6000,6000,1] [0,1,14] [] ?_;refine oE J J J J J J (cX (h64.get _) adj) ?_;refine wZ [6002,6000,6000,6000,8004] ?_;rotate_left
 all_goals
  unfold aB;first|(rw[if_pos adh];done)|(rw[if_neg adh];done)
abbrev ZC:=dT 6 Tryz.func70
variable{a:List cP}
theorem c6 {n most:Int}(ha:0<a.length∧a.length≤1000)(hn:0≤n∧n≤1000000000)(hm:0≤most∧most≤9):au Tryz.prog 70 [af a,int n,int most] (.fresh 3 ((fT a.length n most).map int)):=by
 refine cF ZC fun w0 M0 ae=>?_
 refine db [1007,6,0,10] [0,1,7,8,9] [7] ?_;have hm1:=Int.emod_nonneg n (show most+1≠0 by omega);have hm2:=ac8 n (show 0<most+1 by omega);have h7:0≤n / 7∧n / 7≤n:=⟨adh,adh⟩;have h11:0≤n / 11∧n / 11≤n:=⟨adh,adh⟩;refine lr (fun zl zo zm zs=>∃i:Nat,zm=(n % (most+1)).toNat-i∧((i:Int)≤n % (most+1))∧zs=eV 33 [(7,.own 7),(9,vvw (int i))] zl [(7,.arr 3 (((List.range i).map (XR a.length n)).map int))] zo) ?_ ?_;exact⟨_,0,rfl,adh,rfl⟩;rintro zm zs ⟨i,rfl,aY,rfl⟩;have hmul:0≤n / 11*(i:Int)∧n / 11*(i:Int)≤1000000000*10:=⟨Int.mul_nonneg h11.1 adh,Int.mul_le_mul adh adh adh adh⟩;have hlr:(List.range i).length=i:=aa1;refine wS [3008] [0,1,7,8,9,16] [7] ?_ ?_<;>intro h1;refine wA [8,1,1,0,1,0,0,1000,6,9002] [0,1,7,8,9] [7] ?_;exact⟨_,⟨i+1,rfl,adh,by rw[abB,aaK,aaK];rfl⟩,adh⟩;refine wZ [8013] ?_;exact congrArg (RV.fresh _) (by unfold fT;rw[show(n % (most+1)).toNat=i by omega])
theorem ZD:ug Tryz.prog 65 Tryz.f65.ntmps 2 87 3 (Tryz.f65.body.getD .skip):=⟨Tryz.f65,Tryz.func65,rfl,rfl,rfl,adi,je,bY⟩
theorem HG (ha:a.length≤1000):au Tryz.prog 65 [af a] (.p (rx (.mk 2 ((List.range a.length).map fun k:Nat=>(k:Int)) []))):=by
 refine eH ZD (aaz J) fun w0 M0 ae=>?_
 refine db [1007,9] [0,2,3,4] [2,3] ?_;refine lr (fun zl zo zm zs=>∃i:Nat,zm=a.length-i∧(i≤a.length)∧zs=eV 17 [(3,.own 3),(4,vvw (int i))] zl [(3,.arr 3 (((List.range i).map fun k:Nat=>(k:Int)).map int))] zo) ?_ ?_;exact⟨_,0,rfl,aaG _,rfl⟩;rintro zm zs ⟨i,rfl,aY,rfl⟩;have hlr:(List.range i).length=i:=aa1;refine wS [5,3003] [0,2,3,4,8] [2,3] ?_ ?_<;>intro h1;refine wA [8,1000,6,9002] [0,2,3,4] [2,3] ?_;exact⟨_,⟨i+1,rfl,adh,by rw[abB,aaK,aaK];rfl⟩,adh⟩;refine wA [7] [2,3] [2,3] ?_;refine aD 17 [(2,_),(3,_)] [(2,_)] ae J ⟨.inl J,.inr ⟨_,_,rfl,rfl,rfl⟩,trivial⟩ ⟨rfl,trivial⟩ ?_;refine gV [2] [2,15] [2] ?_;refine oN J J J J J (lg ((List.range i).map fun k:Nat=>(k:Int))) ?_;refine wZ [4] ?_;refine ao J ?_;rw[show i=a.length by omega];rfl
abbrev ZE:=dT 4 Tryz.func30
theorem sy {l:List Int}(h64:iK l)(hl:l.length≤9223372036854775807)(ha:0<a.length∧a.length≤1000):au Tryz.prog 30 [af a,ints l] (.fresh 3 ((tP a.length l).map int)):=by
 refine cF ZE fun w0 M0 ae=>?_
 refine db [1007,9] [0,1,5,6] [5] ?_;refine lr (fun zl zo zm zs=>∃i:Nat,zm=12-i∧(i≤l.length)∧(i≤12)∧zs=eV 28 [(5,.own 5),(6,vvw (int i))] zl [(5,.arr 3 (((l.take i).map fun x=>bw x a.length).map int))] zo) ?_ ?_;exact⟨_,0,rfl,aaG _,aaG _,rfl⟩;rintro zm zs ⟨i,rfl,aY,ax,rfl⟩;have hlr:(l.take i).length=i:=by rw[aaO];omega
 refine wS [5,4002] [0,1,5,6,11] [5] ?_ ?_<;>intro h1';refine wS [3005] [0,1,5,6,14] [5] ?_ ?_<;>intro h2;refine wZ [9,2,5000] ?_;refine oC J J J J (cX (h64.get _) adh) ?_;refine wA [0,1000,6,9002] [0,1,5,6] [5] ?_;exact⟨_,⟨i+1,rfl,adh,adh,by rw[take_succ adh,aaK,aaK];rfl⟩,adh⟩;refine wZ [8013] ?_;rotate_left;refine wZ [8018] ?_;rotate_left
 all_goals
  unfold tP;rw[show l.take 12=l.take i from K9 adh adh adh]
end Go.Proofs.YtlapahnodhmcpaaGreat
namespace Go.Wf
open Go.Am Go.Wb Go.Wc
structure zS (f:aI):Prop where
 af:f.af.length≤1048576
 cuts:f.cuts.length≤1048576
 rules:f.rules.length≤1048576
theorem Rk (f g:aI):decide (f=g)=(decide (f.cell=g.cell)&&decide (f.af=g.af)&&decide (f.cuts=g.cuts)&&decide (f.rules=g.rules)):=by obtain⟨a,b,c,d⟩:=f;obtain⟨a',b',c',d'⟩:=g;rw[acq];simp[and_assoc]
def yY (l:List Int)(x:Int):Bool:=l.any fun y=>decide (y=x)
end Go.Wf
namespace Go.Proofs.YtlapahnodhmcpaaGreat
open Go.Am Go.Wb Go.Wc Go.Wf Go.We
abbrev ZF:=dT 4 Tryz.func24
theorem fu {a b:List Int}(ha:a.length≤1099511627776)(hb:b.length≤1099511627776):au Tryz.prog 24 [ints a,ints b] (.p (bool (decide (a=b)))):=by
 refine cF ZF fun w0 M0 ae=>?_
 refine pO [9,1,3003] [0,1,10] [] ?_ ?_<;>intro h1;refine wZ [8008] ?_;rw[decide_eq_false];intro he;subst he;exact h1 rfl;refine wA [10] [0,1,5] [] ?_;refine lr (fun zl zo zm zs=>∃k:Nat,zm=a.length-k∧(k≤a.length)∧(a.take k=b.take k)∧zs=eV 26 [(5,vvw (int k))] zl [] zo) ?_ ?_;exact⟨_,0,rfl,aaG _,rfl,rfl⟩;rintro zm zs ⟨k,rfl,aY,ax,rfl⟩;refine wS [5,3003] [0,1,5,14] [] ?_ ?_<;>intro h2;refine wS [2006,6002,6003,3004] [0,1,5,25] [] ?_ ?_<;>intro h3;refine wZ [8012] ?_;rw[decide_eq_false];intro he;subst he;exact h3 rfl;refine wA [6,9002] [0,1,5] [] ?_;exact⟨_,⟨k+1,rfl,adh,by rw[take_succ adh,take_succ adh,ax,h3],rfl⟩,adh⟩;refine wZ [8012] ?_;rw[decide_eq_true];have h:=ax;rw[aa2 adh,aa2 adh] at h;exact h
abbrev ZG:=dT 4 Tryz.func60
theorem yZ {a b:List (List UInt8)}(ha:a.length≤1099511627776)(hb:b.length≤1099511627776):au Tryz.prog 60 [strs a,strs b] (.p (bool (decide (a=b)))):=by
 refine cF ZG fun w0 M0 ae=>?_
 refine pO [9,1,3003] [0,1,10] [] ?_ ?_<;>intro h1;refine wZ [8008] ?_;rw[decide_eq_false];intro he;subst he;exact h1 rfl;refine wA [10] [0,1,5] [] ?_;refine lr (fun zl zo zm zs=>∃k:Nat,zm=a.length-k∧(k≤a.length)∧(a.take k=b.take k)∧zs=eV 26 [(5,vvw (int k))] zl [] zo) ?_ ?_;exact⟨_,0,rfl,aaG _,rfl,rfl⟩;rintro zm zs ⟨k,rfl,aY,ax,rfl⟩;refine wS [5,3003] [0,1,5,14] [] ?_ ?_<;>intro h2;refine wS [2006,6002,6003,6001,3002] [0,1,5,25] [] ?_ ?_<;>intro h3;refine wZ [8012] ?_;rw[decide_eq_false];intro he;subst he;exact h3 rfl;refine wA [6,9002] [0,1,5] [] ?_;exact⟨_,⟨k+1,rfl,adh,by rw[take_succ adh,take_succ adh,ax,h3],rfl⟩,adh⟩;refine wZ [8012] ?_;rw[decide_eq_true];have h:=ax;rw[aa2 adh,aa2 adh] at h;exact h
abbrev ZH:=dT 4 Tryz.func32
theorem rN {f g:aI}(hf:zS f)(hg:zS g):au Tryz.prog 32 [gF f,gF g] (.p (bool (decide (f=g)))):=by
 refine cF ZH fun w0 M0 ae=>?_
 refine pO [2,0,9,4001] [2,3,10] [] ?_ ?_<;>intro h1';refine wA [4] [2,3,10,12,14] [] ?_;refine oC J J J J (fu (by have:=hf.af;omega) (by have:=hg.af;omega)) ?_;refine wS [4002] [2,3,17] [] ?_ ?_<;>intro h2';refine wA [4] [2,3,17,19,21] [] ?_;refine oC J J J J (fu (by have:=hf.cuts;omega) (by have:=hg.cuts;omega)) ?_;refine wS [4002] [2,3,24] [] ?_ ?_<;>intro h3';refine wA [4] [24,26,28] [] ?_;refine oC J J J J (yZ (by have:=hf.rules;omega) (by have:=hg.rules;omega)) ?_;refine wZ [8005] ?_;rotate_left;refine wZ [8010] ?_;rotate_left;refine wZ [8017] ?_;rotate_left;refine wZ [8024] ?_;rotate_left
 all_goals
  rw[Rk];simp_all
abbrev ZI:=dT 4 Tryz.func33
theorem qm {a b:List (List Int)}(ha:a.length≤1099511627776)(hb:b.length≤1099511627776)(hA:∀x∈a,x.length≤1099511627776)(hB:∀x∈b,x.length≤1099511627776):au Tryz.prog 33 [nC a,nC b] (.p (bool (decide (a=b)))):=by
 refine cF ZI fun w0 M0 ae=>?_
 refine pO [9,1,3003] [0,1,10] [] ?_ ?_<;>intro h1;refine wZ [8008] ?_;rw[decide_eq_false];intro he;subst he;exact h1 rfl;refine wA [10] [0,1,5] [] ?_;refine lr (fun zl zo zm zs=>∃k:Nat,zm=a.length-k∧(k≤a.length)∧(a.take k=b.take k)∧zs=eV 27 [(5,vvw (int k))] zl [] zo) ?_ ?_;exact⟨_,0,rfl,aaG _,rfl,rfl⟩;rintro zm zs ⟨k,rfl,aY,ax,rfl⟩;refine wS [5,3003] [0,1,5,14] [] ?_ ?_<;>intro h2;refine wA [2006,6002,6003,1] [0,1,5,20,24] [] ?_;refine oE J J J J J J (fu (a:=a.getD k default) (b:=b.getD k default) (hA _ (aO adh)) (hB _ (aO adh))) ?_;refine wS [3003] [0,1,5,26] [] ?_ ?_<;>intro h3;refine wZ [8012] ?_;rw[decide_eq_false];intro he;subst he;exact h3 rfl;refine wA [6,9002] [0,1,5] [] ?_;exact⟨_,⟨k+1,rfl,adh,by rw[take_succ adh,take_succ adh,ax,h3],rfl⟩,adh⟩;refine wZ [8012] ?_;rw[decide_eq_true];have h:=ax;rw[aa2 adh,aa2 adh] at h;exact h
end Go.Proofs.YtlapahnodhmcpaaGreat
namespace Go.Wf
open Go.Am Go.Wb Go.Wc
def mL:List Int→List Int→Bool
 | [],[]=>false
 | [],_ :: _=>true
 | _ :: _,[]=>false
 | x :: a,y :: b=>if x=y then mL a b else decide (x<y)
theorem Fu {a b:List Int}{k:Nat}(ha:k<a.length)(hb:k<b.length):mL (a.drop k) (b.drop k)=if a.getD k default=b.getD k default then mL (a.drop (k+1)) (b.drop (k+1)) else decide (a.getD k default<b.getD k default):=by rw[ab4 ha,ab4 hb,mL,cU ha,cU hb]
theorem Rl {a b:List Int}{k:Nat}(h:¬(k<a.length∧k<b.length)):mL (a.drop k) (b.drop k)=decide (k ≥ a.length∧k<b.length):=by
 rcases aa9 k a.length with ha|ha
 ·rw[ab4 ha,abM (l:=b) adh,decide_eq_false adh];rfl
 ·rw[abM ha];rcases aa9 k b.length with hb|hb
  ·rw[ab4 hb,decide_eq_true ⟨ha,hb⟩];rfl
  ·rw[abM hb,decide_eq_false adh];rfl
def lA:List (List Int)→List Int→List (List Int)
 | [],x=>[x]
 | y :: l,x=>if mL y x=true then y :: lA l x else if y=x then y :: l else x :: y :: l
theorem Fv:∀ {l:List (List Int)}{x:List Int}{k:Nat},k<l.length→(∀j,j<k→mL (l.getD j default) x=true)→l.getD k default=x→mL x x=false→lA l x=l
 | y :: l, x, 0, _, _, h, hn => by
   have:y=x:=h;subst this;unfold lA;rw[if_neg (by rw[hn];decide),if_pos rfl]
 | y :: l, x, k + 1, hk, hb, h, hn => by
   have h0:mL y x=true:=hb 0 adh;unfold lA;rw[if_pos h0,Fv (l:=l) (k:=k) (by simpa using hk) (fun j hj=>hb (j+1) adh) h hn]
theorem Fw:∀ x:List Int,mL x x=false
 | []=>rfl
 | a :: x=>by unfold mL;rw[if_pos rfl];exact Fw x
theorem Je:∀ {l:List (List Int)}{x:List Int}{k:Nat},k≤l.length→(∀j,j<k→mL (l.getD j default) x=true)→(k<l.length→mL (l.getD k default) x=false)→(k<l.length→l.getD k default≠x)→lA l x=l.take k++[x]++l.drop k
 | [], x, k, hk, _, _, _ => by
   have:k=0:=by simpa using hk
   subst this;rfl
 | y :: l, x, 0, _, _, h, hn => by
   have h0:mL y x=false:=h (by simp);have h1:y≠x:=hn (by simp);unfold lA;rw[if_neg (by rw[h0];decide),if_neg h1];rfl
 | y :: l, x, k + 1, hk, hb, h, hn => by
   have h0:mL y x=true:=hb 0 adh;unfold lA;rw[if_pos h0,Je (l:=l) (k:=k) (by simpa using hk) (fun j hj=>hb (j+1) adh) (fun q=>h (by simpa using q)) (fun q=>hn (by simpa using q))];rfl
end Go.Wf
namespace Go.Proofs.YtlapahnodhmcpaaGreat
open Go.Am Go.Wb Go.Wc Go.Wf Go.We
abbrev ZJ:=dT 4 Tryz.func89
theorem Fx {a b:List Int}(ha:a.length≤1099511627776)(hb:b.length≤1099511627776):au Tryz.prog 89 [ints a,ints b] (.p (bool (mL a b))):=by
 refine cF ZJ fun w0 M0 ae=>?_
 refine db [12] [0,1,5] [] ?_;refine lr (fun zl zo zm zs=>∃k:Nat,zm=a.length-k∧(k≤a.length)∧(k≤b.length)∧(mL a b=mL (a.drop k) (b.drop k))∧zs=eV 41 [(5,vvw (int k))] zl [] zo) ?_ ?_;exact⟨_,0,rfl,aaG _,aaG _,rfl,rfl⟩;rintro zm zs ⟨k,rfl,aY,ax,c7,rfl⟩;refine wS [5,4002] [0,1,5,10] [] ?_ ?_<;>intro h1';refine wS [2,3004] [0,1,5,15] [] ?_ ?_<;>intro h2;refine wS [2006,6002,6003,3004] [0,1,5,26] [] ?_ ?_<;>intro h3;refine wZ [2002,6002,6003,8011] ?_;rotate_left;refine wA [6,9002] [0,1,5] [] ?_;exact⟨_,⟨k+1,rfl,adh,adh,by rw[c7,Fu adh adh,if_pos adh],rfl⟩,adh⟩;refine wZ [9,1,8005] ?_;rotate_left;refine wZ [16,1,8005] ?_;rotate_left
 all_goals
  first|(rw[c7,Fu adh adh,if_neg adh];done)|(rw[c7,Rl adh];first|done|(congr 3;exact decide_eq_decide.2 adh))
abbrev ZK:=dT 4 Tryz.func61
theorem HH {l:List (List Int)}{x:List Int}(hl:l.length≤1048576)(hB:∀y∈l,y.length≤1099511627776)(hx:x.length≤1099511627776):aV Tryz.prog 61 [nC l,ints x] (.p (nC (lA l x))):=by
 refine cN ZK fun w0 M0 ae=>?_
 refine db [12] [0,1,5] [] ?_;refine lr (fun zl zo zm zs=>∃k:Nat,zm=l.length-k∧(k≤l.length)∧(∀j,j<k→mL (l.getD j default) x=true)∧zs=eV 48 [(5,vvw (int k))] zl [] zo) ?_ ?_;exact⟨_,0,rfl,aaG _,fun j hj=>absurd hj adh,rfl⟩;rintro zm zs ⟨k,rfl,aY,ax,rfl⟩;refine wS [5,4002] [0,1,5,11] [] ?_ ?_<;>intro h1';refine wA [2,2] [0,1,5,11,15,16] [] ?_;refine oC J J J J (Fx (a:=l.getD k default) (b:=x) (hB _ (aO adh)) hx) ?_;refine wS [3003] [0,1,5,18] [] ?_ ?_<;>intro h2;refine wA [6,9003] [0,1,5] [] ?_;exact⟨_,⟨k+1,rfl,adh,cc ax (by simp_all),rfl⟩,adh⟩;refine wS [11,4002] [0,1,5,25] [] ?_ ?_<;>intro h3';refine wA [2,2] [0,1,5,25,29,30] [] ?_;refine oC J J J J (fu (a:=l.getD k default) (b:=x) (hB _ (aO adh)) hx) ?_;refine wS [3003] [0,1,5,32] [] ?_ ?_<;>intro h4;refine wZ [8009] ?_;rotate_left;refine wZ [1005,7,5000] ?_;refine oS J (step_append J J J J Tryz.underlying52 uV J J ae (dX (f:=ints) (l:=l.take k) J (fun _=>rfl)) (by simp only[aaM,aaA,aaO,aaX,aaL,aaE];omega) (by simp only[aaM,aaA,aaO,aaX,aaL,aaE];omega)) J ?_;refine wZ [7,5000] ?_;refine oS J (step_append J J J J Tryz.underlying52 uV J J ae (cA J (bO (by rfl))) (by simp only[aaM,aaA,aaO,aaX,aaL,aaE];omega) (by simp only[aaM,aaA,aaO,aaX,aaL,aaE];omega)) J ?_;refine wZ [8,5000] ?_;refine oS J (step_append J J J J Tryz.underlying52 uV J J ae (dX (f:=ints) (l:=l.drop k) J (fun _=>rfl)) (by simp only[aaM,aaA,aaO,aaX,aaL,aaE];omega) (by simp only[aaM,aaA,aaO,aaX,aaL,aaE];omega)) J ?_;refine ko 48 [(47,_)] [] ae J ⟨.inr ⟨_,_,rfl,rfl,rfl⟩,trivial⟩ trivial ?_;refine GM [8004] ?_;rotate_left;refine wZ [1014,7,5000] ?_;refine oS J (step_append J J J J Tryz.underlying52 uV J J ae (dX (f:=ints) (l:=l.take k) J (fun _=>rfl)) (by simp only[aaM,aaA,aaO,aaX,aaL,aaE];omega) (by simp only[aaM,aaA,aaO,aaX,aaL,aaE];omega)) J ?_;refine wZ [7,5000] ?_;refine oS J (step_append J J J J Tryz.underlying52 uV J J ae (cA J (bO (by rfl))) (by simp only[aaM,aaA,aaO,aaX,aaL,aaE];omega) (by simp only[aaM,aaA,aaO,aaX,aaL,aaE];omega)) J ?_;refine wZ [8,5000] ?_;refine oS J (step_append J J J J Tryz.underlying52 uV J J ae (dX (f:=ints) (l:=l.drop k) J (fun _=>rfl)) (by simp only[aaM,aaA,aaO,aaX,aaL,aaE];omega) (by simp only[aaM,aaA,aaO,aaX,aaL,aaE];omega)) J ?_;refine ko 48 [(47,_)] [] ae J ⟨.inr ⟨_,_,rfl,rfl,rfl⟩,trivial⟩ trivial ?_;refine GM [8004] ?_;rotate_left;refine wS [20,4002] [0,1,5,25] [] ?_ ?_<;>intro h5';refine wA [2,2] [0,1,5,25,29,30] [] ?_;refine oC J J J J (fu (a:=l.getD k default) (b:=x) (hB _ (aO adh)) hx) ?_;refine wS [3003] [0,1,5,32] [] ?_ ?_<;>intro h6;refine wZ [8009] ?_;rotate_left;refine wZ [1005,7,5000] ?_;refine oS J (step_append J J J J Tryz.underlying52 uV J J ae (dX (f:=ints) (l:=l.take k) J (fun _=>rfl)) (by simp only[aaM,aaA,aaO,aaX,aaL,aaE];omega) (by simp only[aaM,aaA,aaO,aaX,aaL,aaE];omega)) J ?_;refine wZ [7,5000] ?_;refine oS J (step_append J J J J Tryz.underlying52 uV J J ae (cA J (bO (by rfl))) (by simp only[aaM,aaA,aaO,aaX,aaL,aaE];omega) (by simp only[aaM,aaA,aaO,aaX,aaL,aaE];omega)) J ?_;refine wZ [8,5000] ?_;refine oS J (step_append J J J J Tryz.underlying52 uV J J ae (dX (f:=ints) (l:=l.drop k) J (fun _=>rfl)) (by simp only[aaM,aaA,aaO,aaX,aaL,aaE];omega) (by simp only[aaM,aaA,aaO,aaX,aaL,aaE];omega)) J ?_;refine ko 48 [(47,_)] [] ae J ⟨.inr ⟨_,_,rfl,rfl,rfl⟩,trivial⟩ trivial ?_;refine GM [8004] ?_;rotate_left;refine wZ [1014,7,5000] ?_;refine oS J (step_append J J J J Tryz.underlying52 uV J J ae (dX (f:=ints) (l:=l.take k) J (fun _=>rfl)) (by simp only[aaM,aaA,aaO,aaX,aaL,aaE];omega) (by simp only[aaM,aaA,aaO,aaX,aaL,aaE];omega)) J ?_;refine wZ [7,5000] ?_;refine oS J (step_append J J J J Tryz.underlying52 uV J J ae (cA J (bO (by rfl))) (by simp only[aaM,aaA,aaO,aaX,aaL,aaE];omega) (by simp only[aaM,aaA,aaO,aaX,aaL,aaE];omega)) J ?_;refine wZ [8,5000] ?_;refine oS J (step_append J J J J Tryz.underlying52 uV J J ae (dX (f:=ints) (l:=l.drop k) J (fun _=>rfl)) (by simp only[aaM,aaA,aaO,aaX,aaL,aaE];omega) (by simp only[aaM,aaA,aaO,aaX,aaL,aaE];omega)) J ?_;refine ko 48 [(47,_)] [] ae J ⟨.inr ⟨_,_,rfl,rfl,rfl⟩,trivial⟩ trivial ?_;refine GM [8004] ?_;rotate_left
 all_goals
  first|(rw[Fv (k:=k) adh ax adk (Fw x)];first|done|rfl)|(rw[Je (k:=k) adh ax (fun q=>by first|(exfalso;omega)|assumption) (fun q=>by first|(exfalso;omega)|assumption)];show _=RV.p (.sl ((l.take k++[x]++l.drop k).map ints));rw[aaK,aaK];rfl)
end Go.Proofs.YtlapahnodhmcpaaGreat
namespace Go.Wf
open Go.Am Go.Wb Go.Wc
abbrev b7 (l:List aI):AV:=.sl (l.map gF)
structure wx where
 g:aA
 l:List da
 f:List (List aI)
 deriving Inhabited
def XS (m:wx):List AV:=[.sl (m.g.sets.map fh),.sl (m.g.rules.map aZ),.sl (m.g.classes.map bj),strs m.g.order,.sl (m.l.map dx),.sl (m.f.map b7)]
def La (m:wx):AV:=.agg (XS m)
def UH (m:wx):AV:=.pc (XS m) 0
end Go.Wf
namespace Go.Proofs.YtlapahnodhmcpaaGreat
open Go.Am Go.Wb Go.Wc Go.Wf Go.We
end Go.Proofs.YtlapahnodhmcpaaGreat
namespace Go.Wf
open Go.Am Go.Wb Go.Wc
def Jf:aI:=⟨[],[],[],[]⟩
def bU (g:aA)(cl:List UInt8)(w:List Int):List Int:=w.take ((w.length:Int)-(bk g cl).strip).toNat
def jC (g:aA)(cl cn:List UInt8):List aG:=bq g (bR g cl cn).change
def oq (g:aA):List aG:=bq g g.order
def u3 (g:aA)(cl cn:List UInt8)(w:List Int):List Int:=iM [(bR g cl cn).pre,wK (bU g cl w) (jC g cl cn),(bR g cl cn).suf]
def dF (g:aA)(cl cn:List UInt8)(w:List Int):Int:=if hU g cl cn≠0 then hU g cl cn else if jg (bk g cl) w=false then 1 else if bz (bU g cl w) (jC g cl cn)=false then 4
 else if 64<(u3 g cl cn w).length then 4 else if bz (u3 g cl cn w) (oq g)=false then 4 else 0
def gk (g:aA)(cl cn:List UInt8)(w:List Int):aI:=if dF g cl cn w=0 then
   ⟨cn,hJ (wK (u3 g cl cn w) (oq g)),K8 (wK (u3 g cl cn w) (oq g)),nK (bU g cl w) (jC g cl cn)++nK (u3 g cl cn w) (oq g)⟩
 else Jf
variable {g:aA} {cl cn:List UInt8}{w:List Int}
theorem lj {e:Int}(h:dF g cl cn w=e)(h0:e≠0):gk g cl cn w=Jf:=if_neg (by rw[h];exact h0)
theorem oa (h:hU g cl cn≠0):dF g cl cn w=hU g cl cn:=if_pos h
theorem tQ (h:hU g cl cn=0)(h1:jg (bk g cl) w=false):dF g cl cn w=1:=by unfold dF;rw[if_neg (by rw[h];decide),if_pos h1]
theorem CW (h:hU g cl cn=0)(h1:jg (bk g cl) w=true)(h2:bz (bU g cl w) (jC g cl cn)=false):dF g cl cn w=4:=by unfold dF;rw[if_neg (by rw[h];decide),if_neg (by rw[h1];decide),if_pos h2]
theorem CX (h:hU g cl cn=0)(h1:jg (bk g cl) w=true)(h3:64<(u3 g cl cn w).length):dF g cl cn w=4:=by unfold dF;rw[if_neg (by rw[h];decide),if_neg (by rw[h1];decide),if_pos h3];split<;>rfl
theorem CY (h:hU g cl cn=0)(h1:jg (bk g cl) w=true)(h4:bz (u3 g cl cn w) (oq g)=false):dF g cl cn w=4:=by
 unfold dF;rw[if_neg (by rw[h];decide),if_neg (by rw[h1];decide),if_pos h4];split
 ·rfl
 ·split<;>rfl
theorem Jg (h:hU g cl cn=0)(h1:jg (bk g cl) w=true)(h2:bz (bU g cl w) (jC g cl cn)=true)(h3:¬64<(u3 g cl cn w).length)(h4:bz (u3 g cl cn w) (oq g)=true):dF g cl cn w=0:=by unfold dF;rw[if_neg (by rw[h];decide),if_neg (by rw[h1];decide),if_neg (by rw[h2];decide),if_neg h3,if_neg (by rw[h4];decide)]
theorem tR {c:eu}{w:List Int}(h:jg c w=true):0≤c.strip∧c.strip<w.length∧w.length≤24:=by unfold jg at h;simp only[aaZ,decide_eq_true_eq] at h;exact⟨h.1.1.1.1.1,h.1.1.1.2,h.1.1.2⟩
theorem sA:∀ {l:List aG}{w:List Int},bz w l=true→w.length≤64→(wK w l).length≤64
 | [],w,_,h=>h
 | r :: l, w, h, _ => by
   unfold bz at h;rw[aaZ,decide_eq_true_eq] at h;exact sA (l:=l) h.2 h.1
theorem OP {w:List Int}{l:List aG}(hw:w.length≤64):(if bz w l=true then wK w l else[]).length≤64:=by
 split
 ·next h=>exact sA h hw
 ·exact aaG _
theorem CZ {w:List Int}{l:List aG}:(if bz w l=true then nK w l else[]).length≤l.length:=by
 split
 ·exact o7 _ _
 ·exact aaG _
theorem qn (h:jg (bk g cl) w=true):(bU g cl w).length≤24:=by have:=tR h;unfold bU;rw[aaO];omega
theorem XT (h:bz (bU g cl w) (jC g cl cn)=true):iM [(bR g cl cn).pre,(if bz (bU g cl w) (jC g cl cn)=true then wK (bU g cl w) (jC g cl cn) else[]),(bR g cl cn).suf]=u3 g cl cn w:=by rw[if_pos h];rfl
end Go.Wf
namespace Go.Proofs.YtlapahnodhmcpaaGreat
open Go.Am Go.Wb Go.Wc Go.Wf Go.We
variable{w:List Int}
theorem qo {l:List aG}(hw:w.length≤64)(hl:l.length≤1048576)(hR:∀r∈l,LA r) :
   Mw Tryz.prog 115 [ints w,.sl (l.map aZ)] (ints (if bz w l=true then wK w l else[])) 9 ((if bz w l=true then nK w l else[]).map ak) (bool (bz w l)):=by
 refine zI S4 (aaz J) fun w0 M0 ae=>?_
 refine db [1009,9] [0,1,7,8] [7] ?_;refine lr (fun zl zo zm zs=>∃i:Nat,zm=l.length-i∧(i≤l.length)∧(bz w (l.take i)=true)∧((wK w (l.take i)).length≤64)∧zs=eV 40 [(0,vvw (ints (wK w (l.take i)))),(7,.own 7),(8,vvw (int i))] zl [(7,.arr 9 ((nK w (l.take i)).map ak))] zo) ?_ ?_;exact⟨_,0,rfl,aaG _,rfl,hw,rfl⟩;rintro zm zs ⟨i,rfl,aY,ax,c7,rfl⟩;have OJ:=fun h:i<l.length=>hR _ (aO h)
 have hn:(nK w (l.take i)).length≤l.length:=abb (o7 _ _) (by rw[aaO];omega);refine wS [5,3003] [0,1,7,8,13] [7] ?_ ?_<;>intro h1;refine wA [9,2] [0,1,7,8,19,20] [7] ?_;refine oC J J J J (by have h:=vS (r:=l.getD i default) (w:=(wK w (l.take i))) adh (by have:=(OJ adh).pairs;omega) (fun p hp=>abb ((OJ adh).dst p hp) adj) (by have:=(OJ adh).left;omega) (by have:=(OJ adh).right;omega);rw[←EZ] at h;exact h) ?_;refine wA [8] [1,7,8,9,22,23] [7] ?_;refine oC J J J J (rM (a:=bp (l.getD i default) (wK w (l.take i))) (b:=(wK w (l.take i))) (by have:=o8 (r:=l.getD i default) (w:=(wK w (l.take i)));omega) adh) ?_;refine wS [3003] [1,7,8,9,25] [7] ?_ ?_<;>intro h2;refine wS [5,2,1000,12,3003] [0,1,7,8,37] [7] ?_ ?_<;>intro h3;refine wZ [14] ?_;refine tc J J J ?_;rotate_left;refine wA [6,9002] [0,1,7,8] [7] ?_;rotate_left;refine wS [12,3003] [0,1,7,8,37] [7] ?_ ?_<;>intro h4;refine wZ [14] ?_;refine tc J J J ?_;rotate_left;refine wA [6,9002] [0,1,7,8] [7] ?_;rotate_left;refine wZ [16] ?_;refine B9 J J J J ?_;rotate_left
 all_goals first
  | (
    first
      | (rw[Bs (i:=i) adh (by rw[fF adh];omega)];exact⟨rfl,rfl,rfl⟩)
      | (rw[aa2 adh] at *;rw[show bz w l=true by assumption];exact⟨rfl,rfl,rfl⟩);done)
  | (
    exact⟨_,⟨i+1,rfl,adh,(by rw[nk adh,ax,fF adh,abS];exact decide_eq_true adh),(by rw[fF adh];omega),by rw[fF adh,tK adh];first|(rw[if_pos adk,abe];rfl)|(rw[if_neg adk,aaK];rfl)⟩,adh⟩;done)
variable{g:aA}{cl cn:List UInt8}
theorem Fy (hg:mB g)(hu:hU g cl cn=0):aV Tryz.prog 112 [cD g,ak cl,ak cn] (.p (.tup [.sl ((jC g cl cn).map aZ),.sl ((oq g).map aZ),int 0])):=by have h:=tO (cl:=cl) (cn:=cn) hg;rw[if_pos hu,if_pos hu,hu] at h;exact h
theorem HI (hg:mB g)(hu:hU g cl cn≠0):aV Tryz.prog 112 [cD g,ak cl,ak cn] (.p (.tup [.sl [],.sl [],int (hU g cl cn)])):=by have h:=tO (cl:=cl) (cn:=cn) hg;rw[if_neg hu,if_neg hu] at h;exact h
theorem XU:B2 Tryz.prog 79 Tryz.f79.ntmps 8 64 4 9 (Tryz.f79.body.getD .skip):=⟨Tryz.f79,Tryz.func79,rfl,rfl,rfl,adi,QY,He⟩
abbrev OQ (g:aA)(cl cn:List UInt8)(w:List Int):Prop:=aV Tryz.prog 79 [cD g,ak cl,ints w,ak cn] (.p (.tup [gF (gk g cl cn w),int (dF g cl cn w)]))
theorem Lb {g : aA} {cl cn : List UInt8} {w : List Int} (hg : mB g) (hw : w.length ≤ 1099511627776) (hu : hU g cl cn = 0) : OQ g cl cn w := by
 have hch:(jC g cl cn).length≤1000:=abb kN (jB hg cl cn).change;have hod:(oq g).length≤1000:=abb kN hg.order;have hn1:=o7 (jC g cl cn) (bU g cl w);have hn2:=o7 (oq g) (u3 g cl cn w);have hpre:=(jB hg cl cn).pre;have hsuf:=(jB hg cl cn).suf;refine dA XU (aaz J) fun w0 M0 ae=>?_
 refine db [2,9] [1,2,3,4,8,26,27,28] [8] ?_;refine oN J J J J J (Fy hg hu) ?_;refine wA [13] [1,2,3,4,8,10,11,12,33] [8] ?_;refine oP J (bA (b':=false) (dD J J J) (by rfl)) ?_;refine wA [9] [2,3,8,10,11,38,39] [8] ?_;refine oN J J J J J (o9 (by have:=hg.nclasses;omega)) ?_;refine wA [9] [2,3,8,10,11,13] [8,13] ?_;refine aD 103 [(2,_),(3,_),(8,_),(10,_),(11,_),(13,_)] [(8,_)] ae J ⟨.inl J,.inl J,.inl J,.inl J,.inl J,.inr ⟨_,_,rfl,rfl,rfl⟩,trivial⟩ ⟨rfl,trivial⟩ ?_;refine gV [3] [2,3,8,10,11,13,44,45] [8] ?_;refine oN J J J J J (vX (by have:=(lz hg cl).cells;omega)) ?_;refine wA [10] [2,3,8,10,11,13,15] [8,15] ?_;refine aD 103 [(2,_),(3,_),(8,_),(10,_),(11,_),(13,_),(15,_)] [(8,_)] ae J ⟨.inl J,.inl J,.inl J,.inl J,.inl J,.inl J,.inr ⟨_,_,rfl,rfl,rfl⟩,trivial⟩ ⟨rfl,trivial⟩ ?_;refine gV [3] [2,3,8,10,11,13,15,49,50] [8] ?_;refine oC J J J J (HD (c:=(bk g cl)) hw (lz hg cl).fits) ?_;refine wS [3003] [2,3,8,10,11,13,15,52] [8] ?_ ?_<;>intro h1;refine wA [3] [8] [8] ?_;refine oP J (ar (aK J EV CF J J J) J) ?_;refine wZ [6] ?_;refine bB J J ?_;rotate_left;refine wA [7,2] [3,8,10,11,15,55,57,59] [8] ?_;refine oP J (qy J J J (by have:=tR (c:=bk g cl) (w:=w) adk;omega)) ?_;refine oP J (fq J Tryz.underlying22 w6 J J (by have:=tR (c:=bk g cl) (w:=w) adk;omega) (fun _=>rfl)) ?_;refine wA [1] [3,8,11,15,61,62] [8] ?_;refine oS J (xI J J J J J J (qo (w:=(bU g cl w)) (l:=(jC g cl cn)) (by have:=qn (g:=g) (cl:=cl) (w:=w) adk;omega) adh (fun r hr=>hg.rules r (gX hr))) ae) J ?_;refine wA [1] [3,8,11,15,54] [8,63] ?_;refine oP J (oI J J J) ?_;refine oP J (xO J J J) ?_;refine wA [0] [3,8,11,15,54,64,65] [8,63] ?_;refine oP J (oI J J J) ?_;refine wS [3012] [3,8,11,15,17,18,68] [8,63] ?_ ?_<;>intro h2;refine wA [3] [8] [8] ?_;refine oP J (ar (aK J EV CF J J J) J) ?_;refine wZ [6] ?_;refine bB J J ?_;rotate_left;refine wZ [10,5000] ?_;refine oC rfl rfl rfl rfl (CR (l:=[(bR g cl cn).pre,(if bz (bU g cl w) (jC g cl cn)=true then wK (bU g cl w) (jC g cl cn) else[]),(bR g cl cn).suf]) (aaz rfl) (by intro x hx;have hsl:=qn (g:=g) (cl:=cl) (w:=w) adk;have hwl:=OP (w:=bU g cl w) (l:=jC g cl cn) adh;simp only[aa3,acX,or_false] at hx;rcases hx with rfl|rfl|rfl<;>omega)) ?_;refine wS [7,3003] [3,8,11,18,20,79] [8,63] ?_ ?_<;>intro h3;refine wA [3] [8] [8] ?_;refine oP J (ar (aK J EV CF J J J) J) ?_;refine wZ [6] ?_;refine bB J J ?_;rotate_left;refine wA [7] [3,8,18,82,83] [8,63] ?_;refine oS J (xI J J J J J J (qo (w:=(iM [(bR g cl cn).pre,(if bz (bU g cl w) (jC g cl cn)=true then wK (bU g cl w) (jC g cl cn) else[]),(bR g cl cn).suf])) (l:=(oq g)) adh adh (fun r hr=>hg.rules r (gX hr))) ae) J ?_;refine wA [1] [3,8,18,81] [8,63,84] ?_;refine oP J (oI J J J) ?_;refine oP J (xO J J J) ?_;refine wA [0] [3,8,18,81,85,86] [8,63,84] ?_;refine oP J (oI J J J) ?_;refine wS [3012] [3,8,18,20,21,89] [8,63,84] ?_ ?_<;>intro h4;refine wA [3] [8] [8] ?_;refine oP J (ar (aK J EV CF J J J) J) ?_;refine wZ [6] ?_;refine bB J J ?_;rotate_left;refine wA [6] [3,8,18,21,92] [8,63,84] ?_;refine oC J J J J (Ft (w:=(if bz (iM [(bR g cl cn).pre,(if bz (bU g cl w) (jC g cl cn)=true then wK (bU g cl w) (jC g cl cn) else[]),(bR g cl cn).suf]) (oq g)=true then wK (iM [(bR g cl cn).pre,(if bz (bU g cl w) (jC g cl cn)=true then wK (bU g cl w) (jC g cl cn) else[]),(bR g cl cn).suf]) (oq g) else[])) (by have:=OP (w:=(iM [(bR g cl cn).pre,(if bz (bU g cl w) (jC g cl cn)=true then wK (bU g cl w) (jC g cl cn) else[]),(bR g cl cn).suf])) (l:=(oq g)) adh;omega)) ?_;refine wA [14] [8,96,97,98,99,100] [8,63,84] ?_;refine oS J (step_append J J J J Tryz.underlying27 V0 J J ae (P2 J J SF) (by have hq1:=CZ (w:=bU g cl w) (l:=jC g cl cn);have hq2:=CZ (w:=(iM [(bR g cl cn).pre,(if bz (bU g cl w) (jC g cl cn)=true then wK (bU g cl w) (jC g cl cn) else[]),(bR g cl cn).suf])) (l:=(oq g));simp only[aaA];omega) (by have hq1:=CZ (w:=bU g cl w) (l:=jC g cl cn);have hq2:=CZ (w:=(iM [(bR g cl cn).pre,(if bz (bU g cl w) (jC g cl cn)=true then wK (bU g cl w) (jC g cl cn) else[]),(bR g cl cn).suf])) (l:=(oq g));simp only[aaA];omega)) J ?_;refine ko 103 [(8,_),(96,_),(97,_),(98,_),(101,_)] [(8,_),(84,_)] ae J ⟨.inl J,.inl J,.inl J,.inl J,.inr ⟨_,_,rfl,rfl,rfl⟩,trivial⟩ ⟨rfl,rfl,trivial⟩ ?_;refine GM [6] ?_;refine bB J J ?_;rotate_left
 all_goals
   first
     | (rw[lj (tQ hu adk) adj,tQ hu adk];exact⟨rfl,rfl⟩)
     | (rw[lj (CW hu adk adk) adj,CW hu adk adk];exact⟨rfl,rfl⟩)
     | (have hS : bz (bU g cl w) (jC g cl cn) = true := by assumption
        have e1:=XT (cn:=cn) hS
        first
        | (rw[lj (CX hu adk (by rw[←e1];omega)) adj,CX hu adk (by rw[←e1];omega)];exact⟨rfl,rfl⟩)
        | (rw[lj (CY hu adk (by rw[←e1];assumption)) adj,CY hu adk (by rw[←e1];assumption)];exact⟨rfl,rfl⟩)
        | (have hS2 : bz (u3 g cl cn w) (oq g) = true := by rw [← e1]; assumption
           have e0:=Jg hu adk hS (by rw[←e1];omega) hS2;unfold gk;rw[if_pos e0,e0];simp only[hS,↓reduceIte,show iM [(bR g cl cn).pre,wK (bU g cl w) (jC g cl cn),(bR g cl cn).suf]=u3 g cl cn w from rfl,hS2];refine⟨?_,rfl⟩;show _=AV.agg [ak cn,ints _,ints _,.sl (List.map ak (_++_))];rw[aaK];rfl))
theorem OR (hg:mB g)(hu:hU g cl cn≠0):OQ g cl cn w:=by
 refine dA XU (aaz J) fun w0 M0 ae=>?_
 refine db [2,9] [1,2,3,4,8,26,27,28] [8] ?_;refine oN J J J J J (HI hg hu) ?_;refine wA [13] [1,2,3,4,8,10,11,12,33] [8] ?_;refine oP J (bA (b':=true) (dD J J J) (by simp[hu])) ?_;refine wA [5] [8,12] [8] ?_;refine oP J (ar (aK J EV CF J J J) J) ?_;refine wZ [7] ?_;refine bB J J ?_;rw[lj (oa hu) hu,oa hu];exact⟨rfl,rfl⟩
theorem HJ (hg:mB g)(hw:w.length≤1099511627776):OQ g cl cn w:=by
 by_cases hu:hU g cl cn=0
 ·exact Lb hg hw hu
 ·exact OR hg hu
end Go.Proofs.YtlapahnodhmcpaaGreat
namespace Go.Wf
open Go.Am Go.Wb Go.Wc
def iS (w:List Int):Nat→List Int
 | 0=>[]
 | i+1=>if w.getD i default=63∧0<nL w i then iS w i++[nL w i] else iS w i
abbrev tS (l:List Int):List Int:=sJ (fun x y=>decide (x=y)) l
def rO (T:Int)(l:List Int):List Int:=(l.reverse.dropWhile fun x=>decide (x=T)).reverse
variable{l:List Int}
theorem pa (h:0<l.length):l=l.take (l.length-1)++[fz l]:=by have:=take_succ (l:=l) (k:=l.length-1) adh;rw[show l.length-1+1=l.length by omega,abK] at this;exact this
theorem y4 (l:List Int)(x:Int):fz (l++[x])=x:=by unfold fz;rw[aax,aaM,abD,Nat.add_sub_cancel,aa6 (aaD _),acM];rfl
theorem sB (T:Int)(l:List Int)(x:Int):rO T (l++[x])=if x=T then rO T l else l++[x]:=by
 unfold rO;rw[List.reverse_append,List.reverse_singleton,List.singleton_append,List.dropWhile_cons];by_cases h:x=T
 ·rw[if_pos (decide_eq_true h),if_pos h]
 ·rw[if_neg (by simpa using h),if_neg h,List.reverse_cons,ab7]
theorem HK {T:Int}(h:0<l.length)(hl:fz l=T):rO T (l.take (l.length-1))=rO T l:=by
 conv=>rhs;rw[pa h]
 rw[sB,if_pos hl]
theorem Bv {T:Int}(h:¬(0<l.length∧fz l=T)):rO T l=l:=by
 rcases abZ l.length with h0|h0
 ·rw[aa4 h0];rfl
 ·conv=>lhs;rw[pa h0]
  rw[sB,if_neg (fun q=>h ⟨h0,q⟩),←pa h0]
theorem Fz {l m:List Int}:∀{i:Nat},i≤l.length→eA (fun x y=>decide (x=y)) (l++m) i=eA (fun x y=>decide (x=y)) l i
 | 0,_=>rfl
 | i + 1, h => by
   have e1:(l++m).getD i default=l.getD i default:=by rw[aax,aa8 adh,aax]
   have e2:(l++m).getD (i-1) default=l.getD (i-1) default:=by rw[aax,aa8 adh,aax]
   rw[eA,eA,e1,e2,Fz adh]
theorem FA (l:List Int)(x:Int):tS (l++[x])=if 0<l.length∧x=fz l then tS l else tS l++[x]:=by
 show eA _ (l++[x]) (l++[x]).length=_;rw[aaM,abD,eA,Fz (aaD _)];have e1:(l++[x]).getD l.length default=x:=by rw[aax,aa6 (aaD _),acM];rfl
 rw[e1];by_cases h:0<l.length
 ·have e2:(l++[x]).getD (l.length-1) default=fz l:=by rw[aax,aa8 adh,←aax];rfl
  rw[e2];by_cases q:x=fz l
  ·rw[if_pos ⟨h,decide_eq_true q⟩,if_pos ⟨h,q⟩];rfl
  ·rw[if_neg (fun z=>q (of_decide_eq_true z.2)),if_neg (fun z=>q z.2)];rfl
 ·rw[if_neg (fun z=>h z.1),if_neg (fun z=>h z.1)];rfl
theorem tT:∀ {l:List Int},0<l.length→0<(tS l).length∧fz (tS l)=fz l:=by
 have key:∀(n:Nat)(l:List Int),l.length=n→0<l.length→0<(tS l).length∧fz (tS l)=fz l:=by
   intro n
   induction n with
   | zero=>intro l h h0;omega
   | succ n ih =>
     intro l h h0;have e:=pa h0;generalize hm:l.take (l.length-1)=m at e;have hml:m.length=n:=by rw[←hm,aaO];omega
     generalize fz l=x at e;subst e;rw[FA];split
     · next hq =>
       have:=ih m hml hq.1;exact⟨this.1,this.2.trans hq.2.symm⟩
     · exact⟨by rw[aaM];show 0<_+1;omega,y4 _ _⟩
 intro l h;exact key l.length l J h
theorem XV {w:List Int}:∀{i:Nat},i≤w.length→nL w i≤((hJ w).length:Nat):=by
 intro i hi;unfold nL;have:hJ w=hJ (w.take i)++hJ (w.drop i):=by
  unfold hJ;rw[←abG,abU]
 rw[this,aaM];omega
theorem Jh (w : List Int) : ∀ i, i ≤ w.length → ∃ t, tS (iS w i) = fi w i ++ t ∧ (t = [] ∨ (t = [(((hJ w).length : Nat) : Int)] ∧ nL w i = ((hJ w).length : Nat))) ∧ ∀ x ∈ fi w i, x ≠ ((hJ w).length : Nat)
 | 0,_=>⟨[],rfl,.inl rfl,fun x hx=>by cases hx⟩
 | i + 1, hi => by
   obtain⟨t,h1,h2,h3⟩:=Jh w i adh;generalize hT:(((hJ w).length:Nat):Int)=T at *;have hle:=XV (w:=w) (i:=i+1) hi;rw[hT] at hle;by_cases hx:w.getD i default=63
   · have hn := xa (w := w) (i := i) adh hx
     by_cases h0:0<nL w i
     · have hC : iS w (i + 1) = iS w i ++ [nL w i] := by rw [iS, if_pos ⟨hx, h0⟩]
       rw[hC,FA,hn];have hz:(iS w i).length=0→tS (iS w i)=[]:=fun q=>by rw[aa4 q];rfl
       by_cases hnT:nL w i=T
       · have hR : fi w (i + 1) = fi w i := ql hx (.inr (.inl (by rw [hT]; exact hnT)))
         rw[hR];rcases h2 with rfl|⟨rfl,_⟩
         · rw [abe] at h1
           rw[if_neg,h1,hnT]
           · exact⟨[T],rfl,.inr ⟨rfl,rfl⟩,h3⟩
           · rintro ⟨q1, q2⟩
             have:=tT q1;have hm:fz (tS (iS w i))∈tS (iS w i):=by
               unfold fz;exact aO adh
             rw[this.2,←q2,h1] at hm;exact h3 _ hm hnT
         · have hp : 0 < (iS w i).length := by
             rcases abZ (iS w i).length with q|q
             · rw[hz q] at h1;simp at h1
             · exact q
           have hl:=(tT hp).2;rw[h1,y4] at hl;rw[if_pos ⟨hp,by rw[hnT];exact hl⟩];exact⟨[T],h1,.inr ⟨rfl,hnT⟩,h3⟩
       · rcases h2 with rfl | ⟨_, h2⟩
         · rw [abe] at h1
           by_cases hd:0<(iS w i).length∧nL w i=fz (iS w i)
           · have hl := tT hd.1
             rw[h1] at hl;have hR:fi w (i+1)=fi w i:=ql hx (.inr (.inr ⟨hl.1,hl.2.trans hd.2.symm⟩));rw[if_pos hd,hR];exact⟨[],by rw[h1,abe],.inl J,h3⟩
           · have hR : fi w (i + 1) = fi w i ++ [nL w i] := by
               refine yX hx ?_;rintro(q|q|⟨q,q2⟩)
               · omega
               · rw[hT] at q;exact hnT q
               · rw [← h1] at q q2
                 have hp:0<(iS w i).length:=by
                   rcases abZ (iS w i).length with z|z
                   · rw[hz z] at q;simp at q
                   · exact z
                 rw[(tT hp).2] at q2;exact hd ⟨hp,q2.symm⟩
             rw[if_neg hd,hR,h1];refine⟨[],by rw[abe],.inl J,fun x hx=>?_⟩;rcases abl.1 hx with hx|hx
             · exact h3 x hx
             · rw[aaY.1 hx];exact hnT
         · exact absurd h2 hnT
     · have hC : iS w (i + 1) = iS w i := by rw [iS, if_neg (fun q => h0 q.2)]
       have hge:0≤nL w i:=Int.natCast_nonneg _;have hR:fi w (i+1)=fi w i:=ql hx (.inl adh);rw[hC,hR,hn];exact⟨t,h1,h2,h3⟩
   · have hC : iS w (i + 1) = iS w i := by rw [iS, if_neg (fun q => hx q.1)]
     have hn:=CT (w:=w) (i:=i) adh hx;rw[hC,CU hx];rcases h2 with rfl|⟨_,h2⟩
     · exact⟨[],h1,.inl J,h3⟩
     · omega
theorem UI (w:List Int):rO ((hJ w).length:Nat) (tS (iS w w.length))=K8 w:=by
 obtain⟨t,h1,h2,h3⟩:=Jh w w.length (aaD _);have h4:rO ((hJ w).length:Nat) (fi w w.length)=fi w w.length:=Bv fun⟨q,q2⟩=>h3 _ (by unfold fz;exact aO adh) q2
 rw[h1];rcases h2 with rfl|⟨rfl,_⟩
 ·rw[abe];exact h4
 ·rw[sB,if_pos rfl];exact h4
theorem tU (w:List Int):∀i,(iS w i).length≤i
 | 0=>aaD _
 | i + 1 => by
   have:=tU w i;rw[iS];split
   · rw[aaM];show _+1≤_;omega
   · omega
theorem Ji {w:List Int}{i:Nat}(h:¬(w.getD i default=63∧0<nL w i)):iS w (i+1)=iS w i:=if_neg h
theorem OS {w:List Int}{i:Nat}(h:w.getD i default=63)(h0:0<nL w i):iS w (i+1)=iS w i++[nL w i]:=if_pos ⟨h,h0⟩
def Vj (g:aA)(cl cn:List UInt8)(w:List Int):List Int:=(lD (bU g cl w) (jC g cl cn)).1
def C0 (g:aA)(cl cn:List UInt8)(w:List Int):List Int:=iM [(bR g cl cn).pre,Vj g cl cn w,(bR g cl cn).suf]
def Dt (g:aA)(cl cn:List UInt8)(w:List Int):Bool:=(lD (bU g cl w) (jC g cl cn)).2.2||decide (64<(C0 g cl cn w).length)
def wP (g:aA)(cl cn:List UInt8)(w:List Int):List Int:=if Dt g cl cn w=true then C0 g cl cn w else(lD (C0 g cl cn w) (oq g)).1
def Rm (g:aA)(cl cn:List UInt8)(w:List Int):List (List UInt8):=if Dt g cl cn w=true then(lD (bU g cl w) (jC g cl cn)).2.1 else(lD (bU g cl w) (jC g cl cn)).2.1++(lD (C0 g cl cn w) (oq g)).2.1
def Rn (g:aA)(cl cn:List UInt8)(w:List Int):Bool:=if Dt g cl cn w=true then true else(lD (C0 g cl cn w) (oq g)).2.2
variable {g:aA} {cl cn:List UInt8}{w:List Int}
theorem C1 (h:Dt g cl cn w=false):bz (bU g cl w) (jC g cl cn)=true∧C0 g cl cn w=u3 g cl cn w∧¬64<(u3 g cl cn w).length∧(lD (bU g cl w) (jC g cl cn)).2.1=nK (bU g cl w) (jC g cl cn):=by
 unfold Dt at h;rw[Bool.or_eq_false_iff,decide_eq_false_iff_not,tN,Bool.not_eq_false'] at h;have e:=n4 h.1;have ej:C0 g cl cn w=u3 g cl cn w:=by unfold C0 Vj u3;rw[e]
 exact⟨h.1,ej,by rw[←ej];exact h.2,by rw[e]⟩
theorem Bw (hu:hU g cl cn=0)(hf:jg (bk g cl) w=true)(h:Rn g cl cn w=true):dF g cl cn w=4:=by
 unfold Rn at h;cases hj:Dt g cl cn w with
 | true =>
   unfold Dt at hj;cases hs:bz (bU g cl w) (jC g cl cn) with
   | false=>exact CW hu hf hs
   | true =>
     have e:=n4 hs;have ej:C0 g cl cn w=u3 g cl cn w:=by unfold C0 Vj u3;rw[e]
     rw[tN,hs,ej,Bool.not_true,Bool.false_or,decide_eq_true_eq] at hj;exact CX hu hf hj
 | false =>
   obtain⟨h1,h2,h3,h4⟩:=C1 hj;rw[hj,if_neg adj,tN,h2,abw] at h;exact CY hu hf h
theorem y5 (hu:hU g cl cn=0)(hf:jg (bk g cl) w=true)(h:Rn g cl cn w=false):dF g cl cn w=0∧gk g cl cn w=⟨cn,hJ (wP g cl cn w),K8 (wP g cl cn w),Rm g cl cn w⟩:=by
 unfold Rn at h;cases hj:Dt g cl cn w with
 | true=>rw[hj,if_pos rfl] at h;cases h
 | false =>
   obtain⟨h1,h2,h3,h4⟩:=C1 hj;rw[hj,if_neg adj,tN,h2,Bool.not_eq_false'] at h;have e0:=Jg hu hf h1 h3 h;refine⟨e0,?_⟩;unfold gk wP Rm;rw[if_pos e0,hj,if_neg adj,if_neg adj,h4,h2,n4 h]
theorem UJ (h:Rn g cl cn w=false):(wP g cl cn w).length≤192:=by
 unfold Rn at h;cases hj:Dt g cl cn w with
 | true=>rw[hj,if_pos rfl] at h;cases h
 | false =>
   obtain⟨h1,h2,h3,h4⟩:=C1 hj;unfold wP;rw[hj,if_neg adj,h2];exact Jc adh fun _=>adh
theorem C2:∀ {l:List aG}{w:List Int},(lD w l).2.1.length≤l.length
 | [],w=>aaD _
 | r :: l, w => by
   have:=C2 (l:=l) (w:=bp r w);rw[yT,aaE];split
   · show ((if _ then [] else [_]) ++ _).length ≤ _
     rw[aaM];split<;>simp<;>omega
   · show (if _ then [] else [_] : List (List UInt8)).length ≤ _
     split<;>simp
end Go.Wf
