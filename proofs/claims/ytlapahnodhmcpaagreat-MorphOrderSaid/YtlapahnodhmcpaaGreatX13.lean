/-
  Part of the proof.
-/
import Derived.Test.YtlapahnodhmcpaaGreatX12
set_option linter.unusedVariables false
set_option linter.unusedSectionVars false
set_option linter.unusedSimpArgs false
set_option maxRecDepth 100000
set_option maxHeartbeats 40000000
namespace Go.Wf
open Go.Am Go.Wb Go.Wc
variable {g:aA} {cl cn:List UInt8}{w:List Int}
theorem XW (h:(lD (bU g cl w) (jC g cl cn)).2.2=true):Dt g cl cn w=true:=by unfold Dt;rw[h];rfl
theorem XX (h:(lD (bU g cl w) (jC g cl cn)).2.2=false):Dt g cl cn w=decide ((64:Int)<((C0 g cl cn w).length:Nat)):=by unfold Dt;rw[h,Bool.false_or];exact decide_eq_decide.2 adh
theorem UK (h:Dt g cl cn w=true):wP g cl cn w=C0 g cl cn w∧Rm g cl cn w=(lD (bU g cl w) (jC g cl cn)).2.1∧Rn g cl cn w=Dt g cl cn w:=⟨if_pos h,if_pos h,(if_pos h).trans h.symm⟩
theorem UL (h:Dt g cl cn w=false):wP g cl cn w=(lD (C0 g cl cn w) (oq g)).1∧Rm g cl cn w=(lD (bU g cl w) (jC g cl cn)).2.1++(lD (C0 g cl cn w) (oq g)).2.1∧Rn g cl cn w=(lD (C0 g cl cn w) (oq g)).2.2 :=
 ⟨if_neg (by rw[h];decide),if_neg (by rw[h];decide),if_neg (by rw[h];decide)⟩
theorem Ro (g:aA)(cl cn:List UInt8)(w:List Int):(Rm g cl cn w).length≤(jC g cl cn).length+(oq g).length:=by
 have h1:=C2 (l:=jC g cl cn) (w:=bU g cl w);have h2:=C2 (l:=oq g) (w:=C0 g cl cn w);unfold Rm;split
 ·omega
 ·rw[aaM];omega
theorem Rp (hf:jg (bk g cl) w=true):(Vj g cl cn w).length≤192:=by have:=qn hf;exact Jc adh fun _=>adh
theorem UM (h:Dt g cl cn w=false):(C0 g cl cn w).length≤64:=by obtain⟨_,h2,h3,_⟩:=C1 h;rw[h2];omega
end Go.Wf
namespace Go.Proofs.YtlapahnodhmcpaaGreat
open Go.Am Go.Wb Go.Wc Go.Wf Go.We
variable{g:aA}{cl cn:List UInt8}
theorem OT (hg:mB g)(hu:hU g cl cn=0):aV Tryz.prog 95 [cD g,ak cl,ak cn] (.p (.tup [.agg (CS (bk g cl) (bR g cl cn) (jC g cl cn) (oq g)),int 0])):=by have h:=Bu (cl:=cl) (cn:=cn) hg;rw[if_pos hu,hu] at h;exact h
theorem Rq (hg:mB g)(hu:hU g cl cn≠0):aV Tryz.prog 95 [cD g,ak cl,ak cn] (.p (.tup [S5,int (hU g cl cn)])):=by have h:=Bu (cl:=cl) (cn:=cn) hg;rw[if_neg hu] at h;exact h
variable{w:List Int}
theorem FB {l:List aG}{acc:List (List UInt8)}{b:Bool}(hw:w.length≤64)(hl:l.length≤1048576)(hR:∀r∈l,LA r)(ha:acc.length≤1048576)(hb:b=false) :
  lB Tryz.prog 119 [vvw (ints w),vvz (.sl (l.map aZ)),.pbox 1000000 0,.pbox 1000001 0]
   [(11,.arr 9 (acc.map ak)),(1000000,.box 64 [vvw (ak cn),vvv,vvv,.own 11]),(1000001,.box 4 [vvw (bool b)])]
   (vvw (ints (lD w l).1)) [(11,.arr 9 ((acc++(lD w l).2.1).map ak)),(1000000,.box 64 [vvw (ak cn),vvv,vvv,.own 11]),(1000001,.box 4 [vvw (bool (lD w l).2.2)])]:=by
 subst hb;exact yU hw hl hR ha
theorem XY:B2 Tryz.prog 81 Tryz.f81.ntmps 8 64 4 9 (Tryz.f81.body.getD .skip):=⟨Tryz.f81,Tryz.func81,rfl,rfl,rfl,adi,QY,He⟩
abbrev UN (g:aA)(cl cn:List UInt8)(w:List Int):Prop:=aV Tryz.prog 81 [cD g,ak cl,ints w,ak cn] (.p (.tup [gF (gk g cl cn w),int (dF g cl cn w)]))
theorem Rr (hg:mB g)(hu:hU g cl cn≠0):UN g cl cn w:=by
 refine dA XY (aaz J) fun w0 M0 ae=>?_
 refine db [2,9] [2,3,8,21,22,23] [8] ?_;refine oN J J J J J (Rq hg hu) ?_;refine wA [10] [2,3,8,10,11] [8,10] ?_;refine aD 134 [(2,_),(3,_),(8,_),(10,_),(11,_)] [(8,_)] ae J ⟨.inl J,.inl J,.inl J,.inr ⟨_,_,rfl,rfl,rfl⟩,.inl J,trivial⟩ ⟨rfl,trivial⟩ ?_;refine gV [2] [2,3,8,10,11,27] [8] ?_;refine oP J (bA (b':=true) (dD J J J) (by simp[hu])) ?_;refine wA [5] [8,11] [8] ?_;refine oP J (ar (aK J EV CF J J J) J) ?_;refine wZ [7] ?_;refine bB J J ?_;rw[lj (oa hu) hu,oa hu];exact⟨rfl,rfl⟩
theorem OU (hg:mB g)(hw:w.length≤1099511627776)(hu:hU g cl cn=0):UN g cl cn w:=by
 have hch:(jC g cl cn).length≤1000:=abb kN (jB hg cl cn).change;have hod:(oq g).length≤1000:=abb kN hg.order;have hn1:=C2 (l:=jC g cl cn) (w:=bU g cl w);have hn2:=Ro g cl cn w;have hpre:=(jB hg cl cn).pre;have hsuf:=(jB hg cl cn).suf;refine dA XY (aaz J) fun w0 M0 ae=>?_
 refine db [2,9] [2,3,8,21,22,23] [8] ?_;refine oN J J J J J (OT hg hu) ?_;refine wA [10] [2,3,8,10,11] [8,10] ?_;refine aD 134 [(2,_),(3,_),(8,_),(10,_),(11,_)] [(8,_)] ae J ⟨.inl J,.inl J,.inl J,.inr ⟨_,_,rfl,rfl,rfl⟩,.inl J,trivial⟩ ⟨rfl,trivial⟩ ?_;refine gV [2] [2,3,8,10,11,27] [8] ?_;refine oP J (bA (b':=false) (dD J J J) (by rfl)) ?_;refine wA [11] [2,3,8,10,32,33] [8] ?_;refine oC J J J J (K6 (c:=(bk g cl)) hw (lz hg cl).fits (lz hg cl).sim) ?_;refine wS [3003] [2,3,8,10,35] [8] ?_ ?_<;>intro h1;refine wA [3] [8] [8] ?_;refine oP J (ar (aK J EV CF J J J) J) ?_;refine wZ [6] ?_;refine bB J J ?_;rotate_left;refine wA [19,4] [2,8,10,12,13,14] [8,12,13] ?_;refine bN 12 3 11 9 64 ae J J J J ?_;refine gV [0] [2,8,10,12,13,14] [8,11,12,13] ?_;refine dC [12] [[(8,.box 64 [vvw (.sc (.string ⟨#[]⟩)),vvv,vvv,vvv]),(11,.arr 9 []),(12,.box 64 [vvw (ak cn),vvv,vvv,.own 11]),(13,.box 4 [vvw (bool false)])],[(8,.box 64 [vvw (.sc (.string ⟨#[]⟩)),vvv,vvv,vvv]),(11,.arr 9 ((lD (bU g cl w) (jC g cl cn)).2.1.map ak)),(12,.box 64 [vvw (ak cn),vvv,vvv,.own 11]),(13,.box 4 [vvw (bool (lD (bU g cl w) (jC g cl cn)).2.2)])]] 13 [(0,[0])] [(40,.fn 119 [.bx 12,.bx 13]),(41,vvw (ints w)),(42,vvw (ints w)),(43,vvw (int w.length)),(44,vvw (.pc (CS (bk g cl) (bR g cl cn) (jC g cl cn) (oq g)) 0)),(45,vvw (.pc (CS (bk g cl) (bR g cl cn) (jC g cl cn) (oq g)) 4)),(46,vvw (int (bk g cl).strip)),(47,vvw (int ((w.length:Int)-(bk g cl).strip))),(48,vvw (ints (bU g cl w))),(49,vvw (ints (bU g cl w))),(50,vvw (.pc (CS (bk g cl) (bR g cl cn) (jC g cl cn) (oq g)) 10)),(51,vvw (.sl ((jC g cl cn).map aZ))),(52,vvw (ints (Vj g cl cn w))),(2,vvw (ints w)),(8,.pbox 8 0),(10,vvw (.pc (CS (bk g cl) (bR g cl cn) (jC g cl cn) (oq g)) 0)),(12,.pbox 12 0),(13,.pbox 13 0),(14,.fn 119 [.bx 12,.bx 13])] (ai (ai kW (trivial)) (ai bV (ai bV (ai bV (ai bV (ai bV (ai bV (ai (fun _=>(qy J J J (by have:=tR (c:=bk g cl) (w:=w) adk;omega))) (ai (fun _=>(fq J Tryz.underlying22 w6 J J (by have:=tR (c:=bk g cl) (w:=w) adk;omega) (fun _=>rfl))) (ai (fun _=>(bE J J J ((au.weaken (ft (l:=bU g cl w) (by have:=qn (g:=g) (cl:=cl) (w:=w) adk;omega)))) ae)) (ai bV (ai bV trivial)))))))))))) (ai (fun X eC dv cZ=>have ZL:X.lookup 49=some (vvw (ints (bU g cl w))):=(cZ 49 adj).trans rfl;have ZM:X.lookup 51=some (vvw (.sl ((jC g cl cn).map aZ))):=(cZ 51 adj).trans rfl;D7 (t:=52) (o1:=[(8,.box 64 [vvw (.sc (.string ⟨#[]⟩)),vvv,vvv,vvv]),(11,.arr 9 []),(12,.box 64 [vvw (ak cn),vvv,vvv,.own 11]),(13,.box 4 [vvw (bool false)])]) [(11,11),(1000000,12),(1000001,13)] J J J eC (cx:=.tmp 40) ((cZ 40 adj).trans J) J (xs:=#[.tmp 49,.tmp 51]) (svs:=[vvw (ints (bU g cl w)),vvw (.sl ((jC g cl cn).map aZ))]) (by simp only[PL,St.ev,ZL,ZM]) (yU (w:=(bU g cl w)) (l:=(jC g cl cn)) (acc:=[]) (cn:=cn) (by have:=qn (g:=g) (cl:=cl) (w:=w) adk;omega) adh (fun r hr=>hg.rules r (gX hr)) (aaG _)) ⟨.inl J,.inr (.inl ⟨_,rfl,rfl⟩),.inl J,.inl J,trivial⟩ ⟨rfl,rfl,rfl,trivial⟩ J J J J J dv J J J ae) (trivial)) ?_;refine bM (n:=1) adi ?_;refine xe 13 ?_;refine bf adi ?_;refine hZ [10] [8,10,12,13,14,55,56,59] [8,11,12,13] ?_;refine wZ [0,5000] ?_;refine oC rfl rfl rfl rfl (K7 (l:=[(bR g cl cn).pre,(Vj g cl cn w),(bR g cl cn).suf]) (aaz rfl) (by intro x hx;have hsl:=Rp (g:=g) (cl:=cl) (cn:=cn) (w:=w) adk;simp only[aa3,acX,or_false] at hx;rcases hx with rfl|rfl|rfl<;>omega)) ?_;refine wA [3] [8,10,12,13,14,16] [8,11,12,13] ?_;refine ct (fun zs=>zs=⟨134,[(8,.pbox 8 0),(12,.pbox 12 0),(13,.pbox 13 0),(16,vvw (ints (wP g cl cn w)))],[(8,.box 64 [vvw (.sc (.string ⟨#[]⟩)),vvv,vvv,vvv]),(11,.arr 9 ((Rm g cl cn w).map ak)),(12,.box 64 [vvw (ak cn),vvv,vvv,.own 11]),(13,.box 4 [vvw (bool (Rn g cl cn w))])]⟩) ?_ ?_;refine ct (fun zs=>zs=⟨134,[(8,.pbox 8 0),(10,vvw (.pc (CS (bk g cl) (bR g cl cn) (jC g cl cn) (oq g)) 0)),(12,.pbox 12 0),(13,.pbox 13 0),(14,.fn 119 [.bx 12,.bx 13]),(16,vvw (ints (C0 g cl cn w)))],[(8,.box 64 [vvw (.sc (.string ⟨#[]⟩)),vvv,vvv,vvv]),(11,.arr 9 ((lD (bU g cl w) (jC g cl cn)).2.1.map ak)),(12,.box 64 [vvw (ak cn),vvv,vvv,.own 11]),(13,.box 4 [vvw (bool (Dt g cl cn w))])]⟩) ?_ ?_;refine wS [4003] [8,10,12,13,14,16,63] [8,11,12,13] ?_ ?_<;>intro h2';refine wA [10006] [8,10,12,13,14,16] [8,11,12,13] ?_;rotate_left;refine wA [1,10004] [8,10,12,13,14,16] [8,11,12,13] ?_;rotate_left;rintro zs ⟨rfl⟩;refine wS [3006] [8,10,12,13,14,16,69] [8,11,12,13] ?_ ?_<;>intro h3;refine wA [6] [8,12,13,70,71,73] [8,11,12,13] ?_;refine oS J (aR [(11,11),(1000000,12),(1000001,13)] J J J J J J J (FB (w:=(C0 g cl cn w)) (l:=(oq g)) (acc:=(lD (bU g cl w) (jC g cl cn)).2.1) (cn:=cn) (UM adk) adh (fun r hr=>hg.rules r (gX hr)) adh adk) ⟨.inl J,.inr (.inl ⟨_,rfl,rfl⟩),.inl J,.inl J,trivial⟩ ⟨rfl,rfl,rfl,trivial⟩ J J J J J ae) J ?_;refine wA [10002] [8,12,13,16] [8,11,12,13] ?_;rotate_left;refine wA [10002] [8,12,13,16] [8,11,12,13] ?_;rotate_left;rintro zs ⟨rfl⟩;refine wS [3006] [8,12,16,75] [8,11,12] ?_ ?_<;>intro h4;refine wA [3] [8] [8] ?_;refine oP J (ar (aK J EV CF J J J) J) ?_;refine wZ [6] ?_;refine bB J J ?_;rotate_left;refine wA [5] [8,12,16] [8,11,12] ?_;refine bN 12 1 31 3 64 ae J J J J ?_;refine bN 12 2 32 3 64 ae J J J J ?_;refine gV [2,4] [8,12,77,78,79] [8,11,12,31,32] ?_;have hwl:=UJ (g:=g) (cl:=cl) (cn:=cn) (w:=w) adk;refine lr (fun zl zo zm zs=>∃i:Nat,zm=(wP g cl cn w).length-i∧(i≤(wP g cl cn w).length)∧zs=eV 134 [(77,vvw (ints (wP g cl cn w))),(78,vvw (int (wP g cl cn w).length)),(79,vvw (int i))] zl [(11,.arr 9 ((Rm g cl cn w).map ak)),(12,.box 64 [vvw (ak cn),.own 31,.own 32,.own 11]),(31,.arr 3 ((hJ ((wP g cl cn w).take i)).map int)),(32,.arr 3 ((iS (wP g cl cn w) i).map int))] zo) ?_ ?_;exact⟨_,0,rfl,aaG _,rfl⟩;rintro zm zs ⟨i,rfl,aY,rfl⟩;have hc:=tU (wP g cl cn w) i;have hl:=tL ((wP g cl cn w).take i);have hl2:((wP g cl cn w).take i).length=i:=by rw[aaO];omega
 refine wS [3006] [8,12,77,78,79,80] [8,11,12,31,32] ?_ ?_<;>intro h5;refine wS [7,3010] [8,12,18,77,78,79,84] [8,11,12,31,32] ?_ ?_<;>intro h6;refine wA [5,1000,6,9002] [8,12,77,78,79] [8,11,12,31,32] ?_;rotate_left;refine wS [5,3009] [8,12,19,77,78,79,95] [8,11,12,31,32] ?_ ?_<;>intro h7;refine wA [5,1000,6,9002] [8,12,77,78,79] [8,11,12,31,32] ?_;rotate_left;refine wA [5,9002] [8,12,77,78,79] [8,11,12,31,32] ?_;rotate_left;refine wA [7] [8,12] [8,11,12,31,32] ?_;obtain rfl:i=(wP g cl cn w).length:=adh;rw[abK];refine wA [3] [8,12,104] [8,11,12,31,32] ?_;refine oS J (aR [(0,32)] J J J J J J J (o6 (l:=iS (wP g cl cn w) (wP g cl cn w).length) (by have:=tU (wP g cl cn w) (wP g cl cn w).length;omega)) ⟨.inl J,trivial⟩ ⟨rfl,trivial⟩ J J J J J ae) J ?_;refine wA [6] [8,12] [8,11,12,31,32] ?_;refine lr (fun zl zo zm zs=>∃c:List Int,zm=c.length∧(c.length≤192)∧(rO ((hJ (wP g cl cn w)).length:Nat) c=rO ((hJ (wP g cl cn w)).length:Nat) (tS (iS (wP g cl cn w) (wP g cl cn w).length)))∧zs=eV 134 [] zl [(11,.arr 9 ((Rm g cl cn w).map ak)),(12,.box 64 [vvw (ak cn),.own 31,.own 32,.own 11]),(31,.arr 3 ((hJ (wP g cl cn w)).map int)),(32,.arr 3 (c.map int))] zo) ?_ ?_;exact⟨_,tS (iS (wP g cl cn w) (wP g cl cn w).length),rfl,abb (Eg _) (abb (tU _ _) hwl),rfl,rfl⟩;rintro zm zs ⟨c,rfl,gi,gj,rfl⟩;have hlc:=Fs (l:=c);refine wS [2002,6002,7002] [8,12,111] [8,11,12,31,32] ?_ ?_<;>intro h8';refine wS [6004,6000,6000,6000,6002,3004] [8,12,124] [8,11,12,31,32] ?_ ?_<;>intro h9;refine wA [9,0,0] [8,12,126,130] [8,11,12,31,32] ?_;refine oP J (ie J Tryz.underlying22 w6 J J J (by first|(simp only[ll];omega)|omega)) ?_;refine pF 131 J J ae J ?_;refine Yj [9004] [8,12] [8,11,12,31,32] ?_;refine⟨_,⟨c.take (c.length-1),rfl,by rw[aaO];omega,(HK adh adh).trans gj,?_⟩,by rw[aaO];omega⟩;rw[List.map_take,show c.length-1=((c.length:Int)-1).toNat by omega];rfl;refine wA [7] [8,12] [8,11,12,31,32] ?_;refine aD 134 [(8,_),(12,_)] [(8,_)] ae J ⟨.inl J,.inr ⟨_,_,rfl,rfl,rfl⟩,trivial⟩ ⟨rfl,trivial⟩ ?_;refine oJ [7] ?_;refine bB J J ?_;rotate_left;refine wA [22] [8,12] [8,11,12,31,32] ?_;refine aD 134 [(8,_),(12,_)] [(8,_)] ae J ⟨.inl J,.inr ⟨_,_,rfl,rfl,rfl⟩,trivial⟩ ⟨rfl,trivial⟩ ?_;refine oJ [7] ?_;refine bB J J ?_;rotate_left
 all_goals first
  | (
    first
      | (rw[lj (tQ hu adk) adj,tQ hu adk];exact⟨rfl,rfl⟩)
      | (rw[lj (Bw hu adk adk) adj,Bw hu adk adk];exact⟨rfl,rfl⟩)
      | (rw[(y5 hu adk adk).2,(y5 hu adk adk).1,←UI,←gj,Bv adh];exact⟨rfl,rfl⟩);done)
  | (
    first|(rw[XW adk];rfl)|(rw[XX adk];rfl);done)
  | (
    first|(rw[(UK adk).1,(UK adk).2.1,(UK adk).2.2];first|done|rfl)|(rw[(UL adk).1,(UL adk).2.1,(UL adk).2.2];first|done|rfl);done)
  | (
    refine⟨_,⟨i+1,rfl,adh,?_⟩,adh⟩
    first
      | (rw[l3 adh,if_neg adh,Ji (fun q=>absurd q.1 adh),aaK];rfl)
      | (rw[l3 adh,if_pos adh,abe,OS adh (by unfold nL;omega),aaK];rfl)
      | (rw[l3 adh,if_pos adh,abe,Ji (fun q=>absurd q.2 (by unfold nL;omega))];rfl);done)
theorem Lc (hg:mB g)(hw:w.length≤1099511627776):UN g cl cn w:=by
 by_cases hu:hU g cl cn=0
 ·exact OU hg hw hu
 ·exact Rr hg hu
end Go.Proofs.YtlapahnodhmcpaaGreat
namespace Go.Wf
open Go.Am Go.Wb Go.Wc
def u4 (g:aA)(cl:List UInt8)(w:List Int):List gE→Int
 | []=>0
 | c :: l=>if dF g cl c.name w≠0 then dF g cl c.name w else u4 g cl w l
def c5 (g:aA)(cl:List UInt8)(w:List Int):Int:=if(fR g cl).isSome=true then u4 g cl w (bk g cl).cells else 6
def fw (g:aA)(cl:List UInt8)(w:List Int):List aI:=if c5 g cl w=0 then(bk g cl).cells.map fun c=>gk g cl c.name w else[]
variable {g:aA} {cl:List UInt8}{w:List Int}
theorem y6:∀ {l:List gE}{i:Nat},i<l.length→(∀j,j<i→decide (dF g cl (l.getD j default).name w=0)=true)→dF g cl (l.getD i default).name w≠0→u4 g cl w l=dF g cl (l.getD i default).name w
 | [],i,h,_,_=>absurd h (Nat.not_lt_zero i)
 | c :: l,0,_,_,hn=>if_pos hn
 | c :: l, i + 1, h, hz, hn => by
   have h0:dF g cl c.name w=0:=of_decide_eq_true (hz 0 adh);unfold u4;rw[if_neg (fun q=>q h0)];exact y6 (l:=l) (i:=i) (by simpa using h) (fun j hj=>hz (j+1) adh) hn
theorem y7:∀ {l:List gE},(∀j,j<l.length→decide (dF g cl (l.getD j default).name w=0)=true)→u4 g cl w l=0
 | [],_=>rfl
 | c :: l, h => by
   have h0:dF g cl c.name w=0:=of_decide_eq_true (h 0 (by simp));unfold u4;rw[if_neg (fun q=>q h0)];exact y7 (l:=l) fun j hj=>h (j+1) (by simpa using hj)
theorem nm (h:(fR g cl).isSome=false):c5 g cl w=6∧fw g cl w=[]:=by have e:c5 g cl w=6:=if_neg (by rw[h];decide);exact⟨e,by unfold fw;rw[if_neg (by rw[e];decide)]⟩
variable{i:Nat}
theorem pb (h:(fR g cl).isSome=true)(hi:i<(bk g cl).cells.length)(hz:∀j,j<i→decide (dF g cl ((bk g cl).cells.getD j default).name w=0)=true)(hn:dF g cl ((bk g cl).cells.getD i default).name w≠0) :
  c5 g cl w=dF g cl ((bk g cl).cells.getD i default).name w∧fw g cl w=[]:=by
 have e:c5 g cl w=dF g cl ((bk g cl).cells.getD i default).name w:=(if_pos h).trans (y6 hi hz hn);exact⟨e,by unfold fw;rw[if_neg (by rw[e];exact hn)]⟩
theorem pd (h:(fR g cl).isSome=true)(hi:(bk g cl).cells.length≤i)(hz:∀j,j<i→decide (dF g cl ((bk g cl).cells.getD j default).name w=0)=true) :
  c5 g cl w=0∧fw g cl w=((bk g cl).cells.take i).map fun c=>gk g cl c.name w:=by
 have e:c5 g cl w=0:=(if_pos h).trans (y7 fun j hj=>hz j adh);exact⟨e,by unfold fw;rw[if_pos e,aa2 hi]⟩
def FC (x:Int):Bool:=decide (0≤x)&&decide (x<64)
def FD:List UInt8:=[110,111,110,101]
def qp (w:List Int):List UInt8:=if w.all FC=true then w.map fun n=>UInt8.ofNat n.toNat else FD
theorem XZ {x:Int}(h:¬x<0∧¬64≤x):IntKind.u8.wrap x=x:=by
 have:IntKind.u8.wrap x=x % 256:=by
  simp only[IntKind.wrap,IntKind.bits,IntKind.signed]
  first|rfl|(simp;omega)|omega
 rw[this];omega
theorem UO {w:List Int}(hi:i<w.length)(h:FC (w.getD i default)=false):qp w=FD:=by unfold qp;rw[Be hi h];rfl
theorem Rs {w:List Int}(hi:w.length≤i)(h:∀j,j<i→FC (w.getD j default)=true):qp w=(w.take i).map fun n=>UInt8.ofNat n.toNat:=by unfold qp;rw[uZ fun j hj=>h j adh,if_pos rfl,aa2 hi]
end Go.Wf
namespace Go.Proofs.YtlapahnodhmcpaaGreat
open Go.Am Go.Wb Go.Wc Go.Wf Go.We
variable{g:aA}{cl:List UInt8}
theorem C3 (hl:g.classes.length≤1099511627776):aV Tryz.prog 80 [cD g,ak cl] (.p (.tup [bj (bk g cl),bool (fR g cl).isSome])):=yN hl
theorem ZN:Gd Tryz.prog 47 Tryz.f47.ntmps 6 7 (Tryz.f47.body.getD .skip):=⟨Tryz.f47,Tryz.func47,rfl,rfl,rfl,adi⟩
variable{w:List Int}
theorem HL (hg:mB g)(hw:w.length≤1099511627776):aV Tryz.prog 47 [cD g,ak cl,ints w] (.p (.tup [b7 (fw g cl w),int (c5 g cl w)])):=by
 have hcl:=(lz hg cl).cells;refine dS ZN (aaz J) fun w0 M0 ae=>?_
 refine db [2,8] [1,2,3,16,17] [] ?_;refine oN J J J J J (C3 (by have:=hg.nclasses;omega)) ?_;refine wS [3015] [1,2,3,8,22] [8] ?_ ?_<;>intro h1;refine wZ [9] ?_;refine b9 J J ?_;rotate_left;refine wA [1005,4] [1,2,3,8,10] [8,10] ?_;refine aD 48 [(1,_),(2,_),(3,_),(8,_),(10,_)] [(10,_)] ae J ⟨.inl J,.inl J,.inl J,.inr ⟨_,_,rfl,rfl,rfl⟩,.inl J,trivial⟩ ⟨rfl,trivial⟩ ?_;refine gV [3,4] [1,2,3,10,24,25,26] [10] ?_;refine lr (fun zl zo zm zs=>∃i:Nat,zm=(bk g cl).cells.length-i∧(i≤(bk g cl).cells.length)∧(∀j,j<i→decide (dF g cl ((bk g cl).cells.getD j default).name w=0)=true)∧zs=eV 48 [(10,.own 10),(26,vvw (int i))] zl [(10,.arr 64 ((((bk g cl).cells.take i).map fun c=>gk g cl c.name w).map gF))] zo) ?_ ?_;exact⟨_,0,rfl,aaG _,fun j hj=>absurd hj adh,rfl⟩;rintro zm zs ⟨i,rfl,aY,ax,rfl⟩;have hlr:(((bk g cl).cells.take i).map fun c=>gk g cl c.name w).length=i:=by rw[aaA,aaO];omega
 refine wS [3006] [1,2,3,10,24,25,26,27] [10] ?_ ?_<;>intro h2;refine wA [7,12] [1,2,3,10,24,25,26,31,32,33,35] [10] ?_;refine oN J J J J J (Lc (cn:=((bk g cl).cells.getD i default).name) hg hw) ?_;refine wS [3015] [1,2,3,10,13,14,24,25,26,40] [10,13] ?_ ?_<;>intro h3;refine wZ [15] ?_;refine b9 J J ?_;rotate_left;refine wA [6,1000,5,9002] [1,2,3,10,24,25,26] [10] ?_;exact⟨_,⟨i+1,rfl,adh,e6 ax (decide_eq_true adh),by rw[take_succ adh,aaK,aaK];rfl⟩,adh⟩;refine wZ [14] ?_;refine b9 J J ?_;rotate_left
 all_goals
  first
   | (rw[(nm adk).1,(nm adk).2];exact⟨rfl,rfl⟩)
   | (rw[(pb (i:=i) adk adh ax adk).1,(pb (i:=i) adk adh ax adk).2];exact⟨rfl,rfl⟩)
   | (rw[(pd (i:=i) adk adh ax).1,(pd (i:=i) adk adh ax).2];exact⟨rfl,rfl⟩)
theorem ZO:Gd Tryz.prog 46 Tryz.f46.ntmps 6 7 (Tryz.f46.body.getD .skip):=⟨Tryz.f46,Tryz.func46,rfl,rfl,rfl,adi⟩
theorem FE (hg:mB g)(hw:w.length≤1099511627776):aV Tryz.prog 46 [cD g,ak cl,ints w] (.p (.tup [b7 (fw g cl w),int (c5 g cl w)])):=by
 have hcl:=(lz hg cl).cells;refine dS ZO (aaz J) fun w0 M0 ae=>?_
 refine db [2,8] [1,2,3,15,16] [] ?_;refine oN J J J J J (o9 (by have:=hg.nclasses;omega)) ?_;refine wS [3015] [1,2,3,8,21] [8] ?_ ?_<;>intro h1;refine wZ [9] ?_;refine b9 J J ?_;rotate_left;refine wA [4] [1,2,3,8] [8] ?_;refine aD 50 [(1,_),(2,_),(3,_),(8,_)] [] ae J ⟨.inl J,.inl J,.inl J,.inr ⟨_,_,rfl,rfl,rfl⟩,trivial⟩ trivial ?_;refine gV [1001,9] [1,2,3,8,10,11] [10] ?_;refine lr (fun zl zo zm zs=>∃i:Nat,zm=(bk g cl).cells.length-i∧(i≤(bk g cl).cells.length)∧(∀j,j<i→decide (dF g cl ((bk g cl).cells.getD j default).name w=0)=true)∧zs=eV 50 [(10,.own 10),(11,vvw (int i))] zl [(10,.arr 64 ((((bk g cl).cells.take i).map fun c=>gk g cl c.name w).map gF))] zo) ?_ ?_;exact⟨_,0,rfl,aaG _,fun j hj=>absurd hj adh,rfl⟩;rintro zm zs ⟨i,rfl,aY,ax,rfl⟩;have hlr:(((bk g cl).cells.take i).map fun c=>gk g cl c.name w).length=i:=by rw[aaA,aaO];omega
 refine wS [6,3003] [1,2,3,8,10,11,26] [10] ?_ ?_<;>intro h2;refine wA [6] [1,2,3,8,10,11] [10] ?_;refine dC [13,14] [[(10,.arr 64 ((((bk g cl).cells.take i).map fun c=>gk g cl c.name w).map gF))],[(10,.arr 64 ((((bk g cl).cells.take i).map fun c=>gk g cl c.name w).map gF)),(12,.box 64 [vvw (.sc (.string ⟨#[]⟩)),vvv,vvv,vvv])],[(10,.arr 64 ((((bk g cl).cells.take i).map fun c=>gk g cl c.name w).map gF)),(12,.box 64 [vvw (ak (gk g cl ((bk g cl).cells.getD i default).name w).cell),vvw (ints (gk g cl ((bk g cl).cells.getD i default).name w).af),vvw (ints (gk g cl ((bk g cl).cells.getD i default).name w).cuts),vvw (strs (gk g cl ((bk g cl).cells.getD i default).name w).rules)])]] 16 [] [(30,vvw (cD g)),(31,vvw (ak cl)),(32,vvw (ints w)),(33,vvw (.pc (o5 (bk g cl)) 5)),(34,vvw (.sl ((bk g cl).cells.map cu))),(35,vvw (int i)),(36,vvw (.pc (E2 ((bk g cl).cells.getD i default)) 0)),(37,vvw (.pc (E2 ((bk g cl).cells.getD i default)) 0)),(38,vvw (ak ((bk g cl).cells.getD i default).name)),(39,vvw (.tup [gF (gk g cl ((bk g cl).cells.getD i default).name w),int (dF g cl ((bk g cl).cells.getD i default).name w)])),(29,vvw (.tup [gF (gk g cl ((bk g cl).cells.getD i default).name w),int (dF g cl ((bk g cl).cells.getD i default).name w)])),(40,vvw (gF (gk g cl ((bk g cl).cells.getD i default).name w))),(41,vvw (int (dF g cl ((bk g cl).cells.getD i default).name w))),(12,.pbox 12 0),(13,vvw (int (dF g cl ((bk g cl).cells.getD i default).name w))),(1,vvw (ak cl)),(2,vvw (ints w)),(3,vvw (ng g)),(8,vvw (Oy (bk g cl))),(10,.own 10),(11,vvw (int i))] (ai (fun _=>(ar (aF J lb jd J (aaz J)) J)) (ai bV (ai bV (ai bV (ai bV (ai bV (ai (fun _=>(j5 (f:=cu) (l:=(bk g cl).cells) (i:=i) (z:=(bk g cl).cells.getD i default) J J Tryz.underlying95 IP J J adh (fun _=>rfl))) (ai bV (ai bV (ai (fun _=>(bI J J J J (HJ (cn:=((bk g cl).cells.getD i default).name) hg hw) ae)) (ai bV (ai bV (ai bV (ai bV trivial)))))))))))))) (ai (fun X eC dv cZ=>ij (t:=12) J J J J eC CF J J (fun t' z h hne=>fK (by rfl) (dv t' z h) hne) J ae) (ai (fun X eC dv cZ=>cz J (cy (u:=12) (v:=40) (id:=12) J J eC He ((cZ 12 adj).trans J) J ((cZ 40 adj).trans J) J adj J J (fun t' z h=>cS (by rfl) (dv t' z h)) J ae)) (trivial))) ?_;refine bM (n:=0) adi ?_;refine bf adi ?_;refine hZ [8] [1,2,3,8,10,11,12,13,43] [10,12] ?_;refine wD 43 J ?_ ?_<;>intro h3<;>try simp only[dq] at h3
 refine wZ [15] ?_;refine b9 J J ?_;rotate_left;refine wA [6,1000,6,9002] [1,2,3,8,10,11] [10] ?_;exact⟨_,⟨i+1,rfl,adh,e6 ax (decide_eq_true adh),by rw[take_succ adh,aaK,aaK];rfl⟩,adh⟩;refine wZ [14] ?_;refine b9 J J ?_;rotate_left
 all_goals
  first
   | (rw[(nm adk).1,(nm adk).2];exact⟨rfl,rfl⟩)
   | (rw[(pb (i:=i) adk adh ax adk).1,(pb (i:=i) adk adh ax adk).2];exact⟨rfl,rfl⟩)
   | (rw[(pd (i:=i) adk adh ax).1,(pd (i:=i) adk adh ax).2];exact⟨rfl,rfl⟩)
abbrev ZP:=dT 2 Tryz.func50
theorem u5 (hw:w.length≤1099511627776):au Tryz.prog 50 [ints w] (.p (ak (qp w))):=by
 refine cF ZP fun w0 M0 ae=>?_
 refine db [8,0,0] [0,8] [] ?_;refine oS J (GI J J J J Tryz.underlying149 el5 J J (by first|(simp only[ll];omega)|omega) (by first|(simp only[ll];omega)|omega) (by first|(simp only[ll];omega)|omega) ae) J ?_;refine wA [7,4] [3,10,11,12] [9] ?_;refine lr (fun zl zo zm zs=>∃i:Nat,zm=w.length-i∧(i≤w.length)∧(∀j,j<i→FC (w.getD j default)=true)∧zs=eV 30 [(12,vvw (int i))] zl [(9,.arr 5 ((w.take i).map Ia))] zo) ?_ ?_;exact⟨_,0,rfl,aaG _,fun j hj=>absurd hj adh,rfl⟩;rintro zm zs ⟨i,rfl,aY,ax,rfl⟩;have hlr:(w.take i).length=i:=by rw[aaO];omega
 refine wS [3006] [3,10,11,12,13] [9] ?_ ?_<;>intro h1;refine wS [7,4010] [3,5,10,11,12,18] [9] ?_ ?_<;>intro h2';refine wZ [8018] ?_;rotate_left;refine wS [3005] [3,5,10,11,12,21] [9] ?_ ?_<;>intro h3;refine wZ [8013] ?_;rotate_left;refine wA [6] [10,11,12,22,23] [9] ?_;refine oP J (c9 (a':=(w.getD i default)) (nE J Tryz.underlying3 Tryz.underlying5 J) (by exact XZ adh)) ?_;refine wA [0,1000,5,9002] [3,10,11,12] [9] ?_;exact⟨_,⟨i+1,rfl,adh,e6 ax (by unfold FC;rw[decide_eq_true adh,decide_eq_true adh];rfl),by rw[take_succ adh,aaK];rfl⟩,adh⟩;refine wA [9] [28] [9] ?_;refine oP J (Gu J Tryz.underlying149 Tryz.underlying5 Tryz.underlying9 J) ?_;refine wZ [8004] ?_;rotate_left
 all_goals
  first|(rw[UO (i:=i) adh (by unfold FC;first|(rw[decide_eq_false adh];rfl)|(rw[decide_eq_false (p:=w.getD i default<64) adh,ab5]))];rfl)|(rw[Rs (i:=i) adh ax])
abbrev UP:=dT 2 Tryz.func83
theorem y8 {c:Nat}:au Tryz.prog 83 [.sc (.slice none 0 c)] (.fresh 9 []):=by
 refine cF UP fun w0 M0 ae=>?_
 refine db [1002,6] [0,3] [] ?_;refine oP J (qD J Tryz.underlying27 J J) ?_;refine wZ [1005,8004] ?_;rfl
theorem FF {a:Addr}{c:Nat}:au Tryz.prog 83 [.sc (.slice (some a) 0 c)] (.fresh 9 []):=by
 refine cF UP fun w0 M0 ae=>?_
 refine db [1002,6] [0,3] [] ?_;refine oP J (qD J Tryz.underlying27 J J) ?_;refine wA [1007,1] [5,6] [5] ?_;refine oS J (step_append J J J J Tryz.underlying27 V0 J J ae (Ib J) adj adj) J ?_;refine wZ [8004] ?_;rfl
theorem FG {l:List (List UInt8)}(hl:l.length≤1048576)(h0:0<l.length):au Tryz.prog 83 [strs l] (.fresh 9 (l.map ak)):=by
 refine cF UP fun w0 M0 ae=>?_
 refine db [1002,6] [0,3] [] ?_;refine oP J (sZ J Tryz.underlying27 J J (by simp only[aaA];exact h0)) ?_;refine wA [1007,1] [5,6] [5] ?_;refine oS J (step_append J J J J Tryz.underlying27 V0 J J ae (sX J (fun _=>⟨_,rfl⟩)) (by simp only[aaA,aaL];omega) (by simp only[aaA,aaL];omega)) J ?_;refine wZ [8004] ?_;rfl
theorem FH {l:List (List UInt8)}(hl:l.length≤1048576):au Tryz.prog 83 [strs l] (.fresh 9 (l.map ak)):=by
 rcases abZ l.length with h|h
 · have hl0 : l = [] := aa4 h
   subst hl0;refine⟨(y8 (c:=0)).1,fun w vs hv hr=>?_⟩
   match vs,hv with
   | [v], _ =>
     have h0:=hr 0 _ rfl;simp only[List.getD_cons_zero] at h0;generalize hq:strs []=q at h0;cases h0 with
     | sl a n cap xs k cv hn hc hk hb hl2 hr2 =>
       simp only[strs,abW,AV.sl.injEq] at hq;subst hq;simp only[aaL] at hn;subst hn;have one:∀z:Value,z.oneCell'=true→∀(j:Nat) d,[AV.sc z][j]?=some d→bL w (fun _=>False) ([z].getD j undef) d:=fun z hz j d hd=>by
         match j with
         | 0=>simp at hd;subst hd;exact .sc _ hz
         | j+1=>simp at hd
       cases a with
       | none=>exact(y8 (c:=cap)).2 w [.slice none 0 cap] rfl (one _ rfl)
       | some ad=>exact(FF (a:=ad) (c:=cap)).2 w [.slice (some ad) 0 cap] rfl (one _ rfl)
     | _=>cases hq
 · exact FG hl h
theorem ZQ:ug Tryz.prog 51 Tryz.f51.ntmps 2 64 4 (Tryz.f51.body.getD .skip):=⟨Tryz.f51,Tryz.func51,rfl,rfl,rfl,adi,QY,He⟩
theorem FI {f:aI}(hf:zS f):aV Tryz.prog 51 [gF f] (.p (gF f)):=by
 have hf1:=hf.af;have hf2:=hf.cuts;have hf3:=hf.rules;refine bh ZQ (aaz J) fun w0 M0 ae=>?_
 refine db [1002,4] [1,2] [1,2] ?_;refine dC [10,12,14] [[(1,.box 64 [vvw (ak f.cell),vvw (ints f.af),vvw (ints f.cuts),vvw (strs f.rules)]),(2,.box 64 [vvw (.sc (.string ⟨#[]⟩)),vvv,vvv,vvv])],[(1,.box 64 [vvw (ak f.cell),vvw (ints f.af),vvw (ints f.cuts),vvw (strs f.rules)]),(2,.box 64 [vvw (.sc (.string ⟨#[]⟩)),vvv,vvv,vvv])],[(1,.box 64 [vvw (ak f.cell),vvw (ints f.af),vvw (ints f.cuts),vvw (strs f.rules)]),(2,.box 64 [vvw (.sc (.string ⟨#[]⟩)),vvv,vvv,vvv])],[(1,.box 64 [vvw (ak f.cell),vvw (ints f.af),vvw (ints f.cuts),vvw (strs f.rules)]),(2,.box 64 [vvw (.sc (.string ⟨#[]⟩)),vvv,vvv,vvv])]] 15 [(0,[0]),(1,[0]),(3,[0]),(4,[0]),(6,[0]),(7,[0]),(9,[0]),(11,[1]),(13,[2])] [(3,.pbox 1 1),(4,vvw (ints f.af)),(5,vvw (ints f.af)),(6,.pbox 1 2),(7,vvw (ints f.cuts)),(8,vvw (ints f.cuts)),(9,.pbox 1 3),(10,vvw (strs f.rules)),(11,vvw (strs f.rules)),(12,.pbox 1 1),(13,.pbox 1 2),(14,.pbox 1 3),(1,.pbox 1 0),(2,.pbox 2 0)] (ai (ai kW (trivial)) (ai (ai (aa J KH J J J) (trivial)) (ai (fun _=>(bE J J J ((au.weaken (ft (l:=f.af) adh))) ae)) (ai (ai kW (trivial)) (ai (ai (aa J KH J J J) (trivial)) (ai (fun _=>(bE J J J ((au.weaken (ft (l:=f.cuts) adh))) ae)) (ai (ai kW (trivial)) (ai (ai (aa J Y8 J J J) (trivial)) (ai (fun _=>(bE J J J ((au.weaken (FH (l:=f.rules) adh))) ae)) (ai (ai kW (trivial)) (ai (ai kW (trivial)) (ai (ai kW (trivial)) trivial)))))))))))) (ai (fun X eC dv cZ=>cz J (cy (u:=12) (v:=5) (id:=1) J J eC CE ((cZ 12 adj).trans J) J ((cZ 5 adj).trans J) J adj J J (fun t' z h=>cS (by rfl) (dv t' z h)) J ae)) (ai (fun X eC dv cZ=>cz J (cy (u:=13) (v:=8) (id:=1) J J eC CE ((cZ 13 adj).trans J) J ((cZ 8 adj).trans J) J adj J J (fun t' z h=>cS (by rfl) (dv t' z h)) J ae)) (ai (fun X eC dv cZ=>cz J (cy (u:=14) (v:=11) (id:=1) J J eC V4 ((cZ 14 adj).trans J) J ((cZ 11 adj).trans J) J adj J J (fun t' z h=>cS (by rfl) (dv t' z h)) J ae)) (trivial)))) ?_;refine bM (n:=0) adi ?_;refine bf adi ?_;refine Dn [8] ?_;refine ao J ?_;rfl
end Go.Proofs.YtlapahnodhmcpaaGreat
