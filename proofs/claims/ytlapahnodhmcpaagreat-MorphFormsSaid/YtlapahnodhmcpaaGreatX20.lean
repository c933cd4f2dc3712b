/-
  Part of the proof.
-/
import Derived.Test.YtlapahnodhmcpaaGreatX19
set_option linter.unusedVariables false
set_option linter.unusedSectionVars false
set_option linter.unusedSimpArgs false
set_option maxRecDepth 100000
set_option maxHeartbeats 40000000
namespace Go.Wf
open Go.Am Go.Wb Go.Wc
def Vk (g:aA)(i:Nat)(f:aG→aG):aA:={ g with rules:=g.rules.set i (f (g.rules.getD i default)) }
def Tg (g:aA)(i:Nat)(f:eu→eu):aA:={ g with classes:=g.classes.set i (f (g.classes.getD i default)) }
def Yt (g:aA):List (List UInt8):=[[],[118,32,118],[97,98,99,100,101,102,103,104,105,106,107,108,109,110,111,112,113],(g.rules.getD 0 default).name,[97,126],[90,57,46,45]]
def nmS (g:aA)(p:Int):List UInt8:=(Yt g).getD (bw p 6).toNat default
def Vl:Rx:=.mk 1 [] []
def qR (i:Nat):aG:=⟨[113]++gT (i:Int),[],Vl,Vl⟩
def BJ (n:Nat):Int:=if(1:Int)<n then n else 1
theorem xh (n:Nat):0<BJ n:=by unfold BJ;split<;>omega
theorem PC {n:Nat}(h:0<n):BJ n=n:=by unfold BJ;split<;>omega
def Yd (g:aA)(p:Int):Nat:=(bw p (BJ g.rules.length)).toNat
def wD (g:aA)(p:Int):Nat:=(bw p (BJ g.classes.length)).toNat
def Gf (A:Nat)(g:aA)(p h:Int):aA :=
 if h=0 then Vk g (Yd g p) fun x=>{ x with name:=nmS g p } else
 if h=1 then Tg g (wD g p) fun x=>{ x with name:=nmS g p } else
 if h=2 then{ g with order:=g.order++[FD] } else
 if h=3 then{ g with sets:=g.sets++[⟨[119],[bw p 3,1]⟩] } else
 if h=4 then{ g with sets:=g.sets++[⟨nmS g p,[0]⟩] } else
 if h=5 then Vk g (Yd g p) fun x=>{ x with pairs:=[⟨A,[]⟩] } else
 if h=6 then Vk g (Yd g p) fun x=>{ x with pairs:=[⟨0,[0,1,0,1]⟩] } else
 if h=7 then Vk g (Yd g p) fun x=>{ x with left:=.mk 3 [] [Vl] } else
 if h=8 then Tg g (wD g p) fun x=>{ x with strip:=([-1,25,24]:List Int).getD (bw p 3).toNat default } else
 if h=9 then Tg g (wD g p) fun x=>{ x with fits:=.mk 2 [(A:Int)] [] } else
 if h=10 then Tg g (wD g p) fun x=>{ x with cells:=x.cells++[⟨[99,49],[],[],[]⟩] } else
 if h=11 then Tg g (wD g p) fun x=>{ x with cells:=x.cells++[⟨[120],List.replicate (23+bw p 3).toNat 0,[],[]⟩] } else
 if h=12 then Tg g (wD g p) fun x=>{ x with cells:=[⟨[120],[],[63],[]⟩] } else
 { g with rules:=g.rules++(List.range ((15+bw p 3).toNat-g.rules.length)).map fun i=>qR (g.rules.length+i) }
def RR (A:Nat)(g:aA)(p how:Int):aA:=if g.rules.length=0∨g.classes.length=0 then g else Gf A g p (bw how 14)
theorem Jy (g:aA)(i:Nat)(f:aG→aG):cD (Vk g i f)=.agg [.sl (g.sets.map fh),.sl ((g.rules.map aZ).set i (aZ (f (g.rules.getD i default)))),.sl (g.classes.map bj),strs g.order]:=by show AV.agg [_,.sl ((g.rules.set i (f (g.rules.getD i default))).map aZ),_,_]=_;rw[adf];rfl
theorem BK (g:aA)(i:Nat)(f:eu→eu):cD (Tg g i f)=.agg [.sl (g.sets.map fh),.sl (g.rules.map aZ),.sl ((g.classes.map bj).set i (bj (f (g.classes.getD i default)))),strs g.order]:=by show AV.agg [_,_,.sl ((g.classes.set i (f (g.classes.getD i default))).map bj),_]=_;rw[adf];rfl
theorem F8:LA default:=⟨by decide,(fun p hp=>by cases hp),by decide +kernel,by decide +kernel⟩
theorem F9:UB default:=⟨by decide,(fun x hx=>by cases hx),by decide +kernel,by decide +kernel⟩
variable{g:aA}
theorem U3 (h:mB g)(i:Nat):LA (g.rules.getD i default):=by
 rcases aa9 i g.rules.length with hi|hi
 ·exact h.rules _ (aO hi)
 ·rw[aax,abg hi];exact F8
theorem U4 (h:mB g)(i:Nat):UB (g.classes.getD i default):=by
 rcases aa9 i g.classes.length with hi|hi
 ·exact h.classes _ (aO hi)
 ·rw[aax,abg hi];exact F9
variable{i:Nat}
theorem Df (h:mB g){f:aG→aG}(hf:LA (f (g.rules.getD i default))):mB (Vk g i f) :=
 ⟨by show(g.rules.set _ _).length ≤ _; rw[acn]; exact h.nrules, fun r hr => by
  rcases acK hr with hr|rfl
  ·exact h.rules r hr
  ·exact hf,h.nclasses,h.classes,h.order⟩
theorem vn (h:mB g){f:eu→eu}(hf:UB (f (g.classes.getD i default))):mB (Tg g i f) :=
 ⟨h.nrules, h.rules, by show(g.classes.set _ _).length ≤ _; rw[acn]; exact h.nclasses, fun r hr => by
  rcases acK hr with hr|rfl
  ·exact h.classes r hr
  ·exact hf,h.order⟩
structure Ye (g:aA):Prop where
 sm:mB g
 sets:g.sets.length≤900
 rules:g.rules.length≤900
 classes:g.classes.length≤900
 order:g.order.length≤900
 cells:∀c∈g.classes,c.cells.length≤900
theorem Ga (h:Ye g)(i:Nat):(g.classes.getD i default).cells.length≤900:=by
 rcases aa9 i g.classes.length with hi|hi
 ·exact h.cells _ (aO hi)
 ·rw[aax,abg hi];exact aaG _
theorem RS (A:Nat):(dw (.mk 2 [(A:Int)] [])).size≤10000:=by
 unfold dw;split
 ·exact abb (kz _ _) (by rw[dY];show 2*(2+0)≤10000;decide)
 ·decide +kernel
variable{A:Nat}
theorem U5 (h:Ye g)(p how:Int):mB (RR A g p how):=by
 have h3:=gO (n:=p) (most:=3) adj;have hs:=h.sm;unfold RR;split
 ·exact hs
 unfold Gf;have hr:=U3 hs (Yd g p);have hc:=U4 hs (wD g p);have hcl:=Ga h (wD g p);have hre:Yo ⟨[120],List.replicate (23+bw p 3).toNat 0,[],[]⟩:=⟨by show(List.replicate _ _).length≤_;rw[acU];omega,aaG _,aaG _⟩;by_cases h0q:bw how 14=0
 ·rw[if_pos h0q];exact Df hs ⟨hr.pairs,hr.dst,hr.left,hr.right⟩
 rw[if_neg h0q];by_cases h1q:bw how 14=1
 ·rw[if_pos h1q];exact vn hs ⟨hc.cells,hc.cell,hc.fits,hc.sim⟩
 rw[if_neg h1q];by_cases h2q:bw how 14=2
 ·rw[if_pos h2q];exact⟨hs.nrules,hs.rules,hs.nclasses,hs.classes,by show(_++[_]).length≤_;rw[aaM];have:=h.order;show _+1≤_;omega⟩
 rw[if_neg h2q];by_cases h3q:bw how 14=3
 ·rw[if_pos h3q];exact⟨hs.nrules,hs.rules,hs.nclasses,hs.classes,hs.order⟩
 rw[if_neg h3q];by_cases h4q:bw how 14=4
 ·rw[if_pos h4q];exact⟨hs.nrules,hs.rules,hs.nclasses,hs.classes,hs.order⟩
 rw[if_neg h4q];by_cases h5q:bw how 14=5
 ·rw[if_pos h5q];exact Df hs ⟨(show 1≤1000 by decide),(fun q hq=>by rw[aaY] at hq;subst hq;exact aaG _),hr.left,hr.right⟩
 rw[if_neg h5q];by_cases h6q:bw how 14=6
 ·rw[if_pos h6q];exact Df hs ⟨(show 1≤1000 by decide),(fun q hq=>by rw[aaY] at hq;subst hq;decide),hr.left,hr.right⟩
 rw[if_neg h6q];by_cases h7q:bw how 14=7
 ·rw[if_pos h7q];exact Df hs ⟨hr.pairs,hr.dst,by show Rx.size (.mk 3 [] [Vl])≤200;decide +kernel,hr.right⟩
 rw[if_neg h7q];by_cases h8q:bw how 14=8
 ·rw[if_pos h8q];exact vn hs ⟨hc.cells,hc.cell,hc.fits,hc.sim⟩
 rw[if_neg h8q];by_cases h9q:bw how 14=9
 ·rw[if_pos h9q];exact vn hs ⟨hc.cells,hc.cell,by show Rx.size (.mk 2 [(A:Int)] [])≤_;rw[dY];show 2+0≤_;decide,RS A⟩
 rw[if_neg h9q];by_cases h10q:bw how 14=10
 ·rw[if_pos h10q];exact vn hs ⟨by show(_++[_]).length≤_;rw[aaM];show _+1≤_;omega,(fun x hx=>by
   rcases abl.1 hx with hx|hx
   ·exact hc.cell x hx
   ·rw[aaY] at hx;subst hx;exact⟨by decide,by decide,by decide⟩),hc.fits,hc.sim⟩
 rw[if_neg h10q];by_cases h11q:bw how 14=11
 ·rw[if_pos h11q];exact vn hs ⟨by show(_++[_]).length≤_;rw[aaM];show _+1≤_;omega,(fun x hx=>by
   rcases abl.1 hx with hx|hx
   ·exact hc.cell x hx
   ·rw[aaY] at hx;subst hx;exact hre),hc.fits,hc.sim⟩
 rw[if_neg h11q];by_cases h12q:bw how 14=12
 ·rw[if_pos h12q];exact vn hs ⟨(show 1≤1000 by decide),(fun x hx=>by rw[aaY] at hx;subst hx;exact⟨by decide,by decide,by decide⟩),hc.fits,hc.sim⟩
 rw[if_neg h12q];refine⟨by show(g.rules++_).length≤1000;rw[aaM,aaA,aa1];have:=h.rules;omega,fun r hr=>?_,hs.nclasses,hs.classes,hs.order⟩;rcases abl.1 hr with hr|hr
 ·exact hs.rules r hr
 ·obtain⟨i,_,rfl⟩:=aa7.1 hr;exact⟨aaG _,(fun p hp=>by cases hp),by show Vl.size≤_;decide +kernel,by show Vl.size≤_;decide +kernel⟩
variable{p how:Int}
theorem U6 (h:g.rules.length=0∨g.classes.length=0):RR A g p how=g:=if_pos h
theorem gY {h:Int}(h0:¬(g.rules.length=0∨g.classes.length=0))(hh:bw how 14=h):RR A g p how=Gf A g p h:=by unfold RR;rw[if_neg h0,hh]
theorem U7 (h0:¬(g.rules.length=0∨g.classes.length=0))(hh:bw how 14=13)(hi:(15+bw p 3).toNat-g.rules.length=i) :
  cD (RR A g p how)=.agg [.sl (g.sets.map fh),.sl ((g.rules++(List.range i).map fun i=>qR (g.rules.length+i)).map aZ),.sl (g.classes.map bj),strs g.order]:=by
 rw[gY h0 hh];subst hi;rfl
theorem RT {l:List aG}(i:Nat):l++(List.range (i+1)).map (fun i=>qR (l.length+i))=(l++(List.range i).map fun i=>qR (l.length+i))++[qR (l.length+i)]:=by rw[abB,aaK,←abr];rfl
theorem PD {l:List aG}(i:Nat):(l++(List.range (i+1)).map (fun i=>qR (l.length+i))).map aZ=(l++(List.range i).map fun i=>qR (l.length+i)).map aZ++[aZ (qR (l.length+i))]:=by rw[RT,aaK (l₂:=[_])];rfl
theorem PE (c:eu)(x:gE):bj { c with cells:=c.cells++[x] }=.agg [ak c.name,int c.fits.kind,ints c.fits.syms,.sl (Rx.gv c.fits.kids),int c.strip,.sl (c.cells.map cu++[cu x])]:=by show AV.agg [_,_,_,_,_,.sl (List.map cu (_++_))]=_;rw[aaK];rfl
theorem U8 (n:Nat):AV.sl (List.replicate n (.sc (.int .i64 0)))=ints (List.replicate n 0):=by show _=AV.sl _;rw[List.map_replicate]
theorem Dg (h:i<g.classes.length):(g.classes.map bj)[i]?=some (bj (g.classes.getD i default)):=by rw[aaI,aaF h,aax,aaF h];rfl
end Go.Wf
namespace Go.Proofs.YtlapahnodhmcpaaGreat
open Go.Am Go.Wb Go.Wc Go.Wf Go.We
theorem aay:ug Tryz.prog 36 Tryz.f36.ntmps 8 29 4 (Tryz.f36.body.getD .skip):=⟨Tryz.f36,Tryz.func36,rfl,rfl,rfl,adi,lb,jd⟩
theorem Gb {a:List cP}{g:aA}{p how:Int}(ha:0<a.length∧a.length≤60)(hg:Ye g)(hp:Ss p)(hh:Ss how):aV Tryz.prog 36 [af a,cD g,int p,int how] (.p (cD (RR a.length g p how))):=by
 have hq3:=gO (n:=p) (most:=3) adj;have hq6:=gO (n:=p) (most:=6) adj;have hq14:=gO (n:=how) (most:=14) adj;have hrr:=gO (n:=p) (most:=BJ g.rules.length) (xh _);have hcc:=gO (n:=p) (most:=BJ g.classes.length) (xh _);have hs1:=hg.sets;have hs2:=hg.rules;have hs3:=hg.classes;have hs4:=hg.order;have hcl:=Ga hg (wD g p);have hmr:=fun h:0<g.rules.length=>PC h
 have hmc:=fun h:0<g.classes.length=>PC h
 refine bh aay (aaz J) fun w0 M0 ae=>?_
 refine db [1002,1005,2] [0,2,3,5,8,12,14] [5,8,12] ?_;refine oS J (step_append J J J J Tryz.underlying24 IQ J J ae (dX J (fun _=>rfl)) (by first|(simp only[ll];omega)|omega) (by first|(simp only[ll];omega)|omega)) J ?_;refine wA [1006,2] [0,2,3,5,8,17,19] [5,8,12,17] ?_;refine oS J (step_append J J J J Tryz.underlying25 Ul J J ae (dX J (fun _=>rfl)) (by first|(simp only[ll];omega)|omega) (by first|(simp only[ll];omega)|omega)) J ?_;refine wA [1006,2] [0,2,3,5,8,22,24] [5,8,12,17,22] ?_;refine oS J (step_append J J J J Tryz.underlying26 Om J J ae (dX J (fun _=>rfl)) (by first|(simp only[ll];omega)|omega) (by first|(simp only[ll];omega)|omega)) J ?_;refine wZ [9,5000] ?_;refine oP J (c9 (a':=BJ g.rules.length) (DW J J J) (rfl)) ?_;refine wA [0] [0,2,3,5,8,27,31] [5,8,12,17,22] ?_;refine oC J J J J (cX hp (xh _)) ?_;refine wZ [8,5000] ?_;refine oP J (c9 (a':=BJ g.classes.length) (DW J J J) (rfl)) ?_;refine wA [0] [0,2,3,5,8,9,33,37] [5,8,12,17,22] ?_;refine oC J J J J (cX hp (xh _)) ?_;refine wS [8,4002] [0,2,3,5,8,9,10,43] [5,8,12,17,22] ?_ ?_<;>intro h1';refine wA [9] [5,8] [5,8,12,17,22] ?_;refine aD 243 [(5,_),(8,_)] [(8,_)] ae J ⟨.inr ⟨_,_,rfl,rfl,rfl⟩,.inl J,trivial⟩ ⟨rfl,trivial⟩ ?_;refine oJ [7] ?_;refine ao J ?_;rotate_left;refine wS [2,3004] [0,2,3,5,8,9,10,48] [5,8,12,17,22] ?_ ?_<;>intro h2;refine wA [2] [5,8] [5,8,12,17,22] ?_;refine aD 243 [(5,_),(8,_)] [(8,_)] ae J ⟨.inr ⟨_,_,rfl,rfl,rfl⟩,.inl J,trivial⟩ ⟨rfl,trivial⟩ ?_;refine oJ [7] ?_;refine ao J ?_;rotate_left;have hr0:0<g.rules.length∧0<g.classes.length:=adh;have hmr1:=hmr hr0.1;have hmc1:=hmc hr0.2;have hspc:Wf.wD g p<g.classes.length:=by unfold Wf.wD;omega
 refine wA [7] [0,2,3,5,8,9,10,51] [5,8,12,17,22] ?_;refine oP J (ah J Tryz.underlying25 Hf J J J (by simp only[abH,aaA];omega)) ?_;refine oP J (bn J Oj J J) ?_;refine wA [0,0,7] [0,2,5,8,9,10,11,56] [5,8,12,17,22] ?_;refine oC J J J J (cX hh adj) ?_;refine wS [3009] [0,2,5,8,9,10,11,57,58] [5,8,12,17,22] ?_ ?_<;>intro h3;refine wA [2001,5] [5,8,61,62,63,64] [5,8,12,17,22] ?_;refine oE J J J J J J (cX hp adj) ?_;refine oD J J J (dh (f:=ak) (l:=(Yt g)) J Tryz.underlying27 SF J J (by show _∧_<(6:Int);exact hq6) (fun _=>rfl)) ?_;refine wA [1] [5,8,61,62,67] [5,8,12,17,22] ?_;refine oD J J J (ah J Tryz.underlying25 Hf J J J (by simp only[abH,aaA];omega)) ?_;refine oD J J J (bn J Oj J J) ?_;refine b8 adi ?_;refine cB J (aj J J J SF J J (e9 (by first|(simp only[ll];omega)|omega)) J J (.inl J) J (aaz J) ae) ?_;refine dN ?_;refine hZ [3] [5,8] [5,8,12,17,22] ?_;refine aD 243 [(5,_),(8,_)] [(8,_)] ae J ⟨.inr ⟨_,_,rfl,rfl,rfl⟩,.inl J,trivial⟩ ⟨rfl,trivial⟩ ?_;refine oJ [6] ?_;refine ao J ?_;rotate_left;refine wS [3007] [0,2,5,8,9,10,11,57,70] [5,8,12,17,22] ?_ ?_<;>intro h4;refine wA [2001,5] [5,8,73,74,75,76] [5,8,12,17,22] ?_;refine oE J J J J J J (cX hp adj) ?_;refine oD J J J (dh (f:=ak) (l:=(Yt g)) J Tryz.underlying27 SF J J (by show _∧_<(6:Int);exact hq6) (fun _=>rfl)) ?_;refine wA [1] [5,8,73,74,79] [5,8,12,17,22] ?_;refine oD J J J (ah J Tryz.underlying26 rm J J J (by simp only[abH,aaA];omega)) ?_;refine oD J J J (bn J Up J J) ?_;refine b8 adi ?_;refine cB J (aj J J J SF J J (e9 (by first|(simp only[ll];omega)|omega)) J J (.inl J) J (aaz J) ae) ?_;refine dN ?_;refine hZ [3] [5,8] [5,8,12,17,22] ?_;refine aD 243 [(5,_),(8,_)] [(8,_)] ae J ⟨.inr ⟨_,_,rfl,rfl,rfl⟩,.inl J,trivial⟩ ⟨rfl,trivial⟩ ?_;refine oJ [6] ?_;refine ao J ?_;rotate_left;refine wS [3007] [0,2,5,8,9,10,11,57,82] [5,8,12,17,22] ?_ ?_<;>intro h5;refine wA [1002,2] [5,8,84,86] [5,8,12,17,22,84] ?_;refine oS J (step_append J J J J Tryz.underlying27 V0 J J ae (dX J (fun _=>rfl)) (by first|(simp only[ll];omega)|omega) (by first|(simp only[ll];omega)|omega)) J ?_;refine wA [0,1000,6] [5,8] [5,8,12,17,22,84] ?_;refine aD 243 [(5,_),(8,_)] [(8,_)] ae J ⟨.inr ⟨_,_,rfl,rfl,rfl⟩,.inl J,trivial⟩ ⟨rfl,trivial⟩ ?_;refine oJ [6] ?_;refine ao J ?_;rotate_left;refine wS [3007] [0,2,5,8,9,10,11,57,91] [5,8,12,17,22] ?_ ?_<;>intro h6;refine wA [2001,3] [5,8,94,95] [5,8,12,17,22] ?_;refine oE J J J J J J (cX hp adj) ?_;refine wZ [6000,6001,5000] ?_;refine b8 adi ?_;refine cB J (step_append J J J J Tryz.underlying24 IQ J J ae (cA J (bO (by rfl))) (by first|(simp only[ll];omega)|omega) (by first|(simp only[ll];omega)|omega)) ?_;refine sQ J J J (jQ J Oi J J) ?_;refine cB J (aP J J J V2 J J J J J ae) ?_;refine dN ?_;refine hZ [3] [5,8] [5,8,12,17,22] ?_;refine aD 243 [(5,_),(8,_)] [(8,_)] ae J ⟨.inr ⟨_,_,rfl,rfl,rfl⟩,.inl J,trivial⟩ ⟨rfl,trivial⟩ ?_;refine oJ [6] ?_;refine ao J ?_;rotate_left;refine wS [3007] [0,2,5,8,9,10,11,57,102] [5,8,12,17,22] ?_ ?_<;>intro h7;refine wA [2001,4] [5,8,105,106,107] [5,8,12,17,22] ?_;refine oE J J J J J J (cX hp adj) ?_;refine oD J J J (dh (f:=ak) (l:=(Yt g)) J Tryz.underlying27 SF J J (by show _∧_<(6:Int);exact hq6) (fun _=>rfl)) ?_;refine wZ [6001,6001,5000] ?_;refine b8 adi ?_;refine cB J (step_append J J J J Tryz.underlying24 IQ J J ae (cA J (bO (by rfl))) (by first|(simp only[ll];omega)|omega) (by first|(simp only[ll];omega)|omega)) ?_;refine sQ J J J (jQ J Oi J J) ?_;refine cB J (aP J J J V2 J J J J J ae) ?_;refine dN ?_;refine hZ [3] [5,8] [5,8,12,17,22] ?_;refine aD 243 [(5,_),(8,_)] [(8,_)] ae J ⟨.inr ⟨_,_,rfl,rfl,rfl⟩,.inl J,trivial⟩ ⟨rfl,trivial⟩ ?_;refine oJ [6] ?_;refine ao J ?_;rotate_left;refine wS [3007] [0,2,5,8,9,10,57,116] [5,8,12,17,22] ?_ ?_<;>intro h8;refine wZ [6,5000] ?_;refine oP J (ar (aK J SI Oo J J J) J) ?_;refine wZ [0,5000] ?_;refine oP J (ah J Tryz.underlying25 Hf J J J (by simp only[abH,aaA];omega)) ?_;refine wA [0] [5,8,124,125] [5,8,12,17,22] ?_;refine oP J (bn J Ol J J) ?_;refine oS J (aj J J J Wj J J (e9 (by first|(simp only[ll];omega)|omega)) J J (.inl J) J (aaz J) ae) J ?_;refine wA [4] [5,8] [5,8,12,17,22] ?_;refine aD 243 [(5,_),(8,_)] [(8,_)] ae J ⟨.inr ⟨_,_,rfl,rfl,rfl⟩,.inl J,trivial⟩ ⟨rfl,trivial⟩ ?_;refine oJ [6] ?_;refine ao J ?_;rotate_left;refine wS [3007] [0,2,5,8,9,10,57,127] [5,8,12,17,22] ?_ ?_<;>intro h9;refine wZ [5,5000] ?_;refine oP J (ar (aK J SI Oo J J J) J) ?_;refine wZ [0,5000] ?_;refine oP J (ah J Tryz.underlying25 Hf J J J (by simp only[abH,aaA];omega)) ?_;refine wA [0] [5,8,134,135] [5,8,12,17,22] ?_;refine oP J (bn J Ol J J) ?_;refine oS J (aj J J J Wj J J (e9 (by first|(simp only[ll];omega)|omega)) J J (.inl J) J (aaz J) ae) J ?_;refine wA [4] [5,8] [5,8,12,17,22] ?_;refine aD 243 [(5,_),(8,_)] [(8,_)] ae J ⟨.inr ⟨_,_,rfl,rfl,rfl⟩,.inl J,trivial⟩ ⟨rfl,trivial⟩ ?_;refine oJ [6] ?_;refine ao J ?_;rotate_left;refine wS [3007] [0,2,5,8,9,10,57,137] [5,8,12,17,22] ?_ ?_<;>intro h10;refine wA [5] [5,8,140,141] [5,8,12,17,22] ?_;refine oP J (ar (aK J yA my J J J) J) ?_;refine wA [0,0] [5,8,140,141,143] [5,8,12,17,22] ?_;refine oP J (ar (aK J yA my J J J) J) ?_;refine oP J (ah J Tryz.underlying25 Hf J J J (by simp only[abH,aaA];omega)) ?_;refine wA [0] [5,8,144,145] [5,8,12,17,22] ?_;refine oP J (bn J Um J J) ?_;refine oS J (aj J J J bY J J (e9 (by first|(simp only[ll];omega)|omega)) J J (.inl J) J (aaz J) ae) J ?_;refine wA [4] [5,8] [5,8,12,17,22] ?_;refine aD 243 [(5,_),(8,_)] [(8,_)] ae J ⟨.inr ⟨_,_,rfl,rfl,rfl⟩,.inl J,trivial⟩ ⟨rfl,trivial⟩ ?_;refine oJ [6] ?_;refine ao J ?_;rotate_left;refine wS [3007] [0,2,5,8,10,57,147] [5,8,12,17,22] ?_ ?_<;>intro h11;refine wA [2001,6003,1] [5,8,150,151,152,153] [5,8,12,17,22] ?_;refine oE J J J J J J (cX hp adj) ?_;refine oD J J J (dh (f:=int) (l:=([-1,25,24]:List Int)) J Tryz.underlying22 w6 J J (by show _∧_<(3:Int);exact hq3) (fun _=>rfl)) ?_;refine wA [1] [5,8,150,151,156] [5,8,12,17,22] ?_;refine oD J J J (ah J Tryz.underlying26 rm J J J (by simp only[abH,aaA];omega)) ?_;refine oD J J J (bn J Ur J J) ?_;refine b8 adi ?_;refine cB J (aj J J J w6 J J (e9 (by first|(simp only[ll];omega)|omega)) J J (.inl J) J (aaz J) ae) ?_;refine dN ?_;refine hZ [3] [5,8] [5,8,12,17,22] ?_;refine aD 243 [(5,_),(8,_)] [(8,_)] ae J ⟨.inr ⟨_,_,rfl,rfl,rfl⟩,.inl J,trivial⟩ ⟨rfl,trivial⟩ ?_;refine oJ [6] ?_;refine ao J ?_;rotate_left;refine wS [3007] [0,2,5,8,10,57,159] [5,8,12,17,22] ?_ ?_<;>intro h12;refine wZ [2001,6004,6000,5000] ?_;refine oF J J J J J J J (lg [(a.length:Int)]) ?_;refine oD J J J (ah J Tryz.underlying26 rm J J J (by simp only[abH,aaA];omega)) ?_;refine oD J J J (bn J Uq J J) ?_;refine b8 adi ?_;refine cB J (aj J J J bY J J (e9 (by first|(simp only[ll];omega)|omega)) J J (.inl J) J (aaz J) ae) ?_;refine dN ?_;refine hZ [3] [5,8] [5,8,12,17,22] ?_;refine aD 243 [(5,_),(8,_)] [(8,_)] ae J ⟨.inr ⟨_,_,rfl,rfl,rfl⟩,.inl J,trivial⟩ ⟨rfl,trivial⟩ ?_;refine oJ [6] ?_;refine ao J ?_;rotate_left;refine wS [3007] [2,5,8,10,57,170] [5,8,12,17,22] ?_ ?_<;>intro h13;refine wA [1] [5,8,10] [5,8,12,17,22] ?_;refine dC [3,10,13] [[(5,.box 29 [.own 12,.own 17,.own 22,vvw (strs g.order)]),(8,.box 29 [vvv,vvv,vvv,vvv]),(12,.arr 122 (g.sets.map fh)),(17,.arr 89 (g.rules.map aZ)),(22,.arr 97 (g.classes.map bj))],[(5,.box 29 [.own 12,.own 17,.own 22,vvw (strs g.order)]),(8,.box 29 [vvv,vvv,vvv,vvv]),(12,.arr 122 (g.sets.map fh)),(17,.arr 89 (g.rules.map aZ)),(22,.arr 97 (g.classes.map bj)),(175,.arr 112 [])],[(5,.box 29 [.own 12,.own 17,.own 22,vvw (strs g.order)]),(8,.box 29 [vvv,vvv,vvv,vvv]),(12,.arr 122 (g.sets.map fh)),(17,.arr 89 (g.rules.map aZ)),(22,.arr 97 (g.classes.map bj)),(182,.arr 112 ((g.classes.getD (wD g p) default).cells.map cu))],[(5,.box 29 [.own 12,.own 17,.own 22,vvw (strs g.order)]),(8,.box 29 [vvv,vvv,vvv,vvv]),(12,.arr 122 (g.sets.map fh)),(17,.arr 89 (g.rules.map aZ)),(22,.arr 97 (g.classes.map bj)),(185,.arr 112 ((g.classes.getD (wD g p) default).cells.map cu++[cu ⟨[99,49],[],[],[]⟩]))]] 14 [(0,[0,1,2,3]),(1,[0,1,2,3]),(4,[0,1]),(5,[0,1]),(7,[0,1]),(8,[0,1]),(9,[0,1])] [(172,.pbox 5 2),(173,.own 22),(174,vvw (int (bw p (BJ g.classes.length)))),(175,.own 175),(176,.pbox 5 2),(177,.own 22),(178,vvw (int (bw p (BJ g.classes.length)))),(179,.pel 22 (bw p (BJ g.classes.length)).toNat 0),(180,.pel 22 (bw p (BJ g.classes.length)).toNat 5),(181,vvw (.sl ((g.classes.getD (wD g p) default).cells.map cu))),(182,.own 182),(183,vvw (cu ⟨[99,49],[],[],[]⟩)),(184,vvw (.sl [cu ⟨[99,49],[],[],[]⟩])),(185,.own 185),(5,.pbox 5 0),(8,.pbox 8 0),(10,vvw (int (bw p (BJ g.classes.length))))] (ai (ai kW (ai kW (ai kW (ai kW (trivial))))) (ai (ai (aa J wo J J J) (ai (aa J wo J J J) (ai (aa J wo J J J) (ai (aa J wo J J J) (trivial))))) (ai bV (ai (ai kW (ai kW (trivial))) (ai (ai (aa J wo J J J) (ai (aa J wo J J J) (trivial))) (ai bV (ai (ai (ah J Tryz.underlying26 rm J J J (by simp only[abH,aaA];omega)) (ai (ah J Tryz.underlying26 rm J J J (by simp only[abH,aaA];omega)) (trivial))) (ai (ai (id (bn J sq J J)) (ai (id (bn J sq J J)) (trivial))) (ai (ai (c3 (el:=bj (g.classes.getD (wD g p) default)) J EW J J (Dg hspc) J) (ai (c3 (el:=bj (g.classes.getD (wD g p) default)) J EW J J (Dg hspc) J) (trivial))) (ai (fun _=>(ar (aK J A9 A8 J J J) J)) (ai bV trivial))))))))))) (ai (fun X eC dv cZ=>xN (T:=95) (parts:=#[]) (t:=175) J J J J eC Tryz.underlying95 rH dv J J J ae) (ai (fun X eC dv cZ=>ck (T:=95) (t:=182) (u:=175) (id:=175) (y:=.tmp 181) J J J eC Tryz.underlying95 rH ((cZ 175 adj).trans J) J (dX (gp ((cZ 181 adj).trans J)) (fun _=>rfl)) (by simp only[aaA,aaE,aaL];omega) (by simp only[aaA,aaE,aaL];omega) J dv J J J ae) (ai (fun X eC dv cZ=>ck (T:=95) (t:=185) (u:=182) (id:=182) (y:=.tmp 184) J J J eC Tryz.underlying95 rH ((cZ 182 adj).trans J) J (cA (gp ((cZ 184 adj).trans J)) (bO (by rfl))) (by simp only[aaA,aaE,aaL];omega) (by simp only[aaA,aaE,aaL];omega) J dv J J J ae) (trivial)))) ?_;refine bM (n:=3) adi ?_;refine aH (i:=14) adi J J (aM J J (ah J Tryz.underlying26 rm J J J (by simp only[abH,aaA];omega))) ?_;refine aH (i:=15) adi J J (aM J J (bn J sq J J)) ?_;refine Mi (wB (l:=[(5,_),(8,_),(185,_),(187,_)]) (o':=[(5,_),(8,_),(12,_),(17,_),(22,_)]) ae ⟨.inl J,.inl J,.inr ⟨_,_,rfl,rfl,rfl⟩,.inl J,trivial⟩ ⟨rfl,rfl,rfl,rfl,rfl,trivial⟩) ?_;refine aH (i:=16) adi J J (aj J J J Hg J J (e9 (by first|(simp only[ll];omega)|omega)) J J (.inl J) J (aaz J) ae) ?_;refine bf adi ?_;refine hZ [3] [5,8] [5,8,12,17,22] ?_;refine aD 243 [(5,_),(8,_)] [(8,_)] ae J ⟨.inr ⟨_,_,rfl,rfl,rfl⟩,.inl J,trivial⟩ ⟨rfl,trivial⟩ ?_;refine oJ [6] ?_;refine ao J ?_;rotate_left;refine wS [3007] [2,5,8,10,57,188] [5,8,12,17,22] ?_ ?_<;>intro h14;refine wA [1] [2,5,8,10] [5,8,12,17,22] ?_;refine dC [3,10,17] [[(5,.box 29 [.own 12,.own 17,.own 22,vvw (strs g.order)]),(8,.box 29 [vvv,vvv,vvv,vvv]),(12,.arr 122 (g.sets.map fh)),(17,.arr 89 (g.rules.map aZ)),(22,.arr 97 (g.classes.map bj))],[(5,.box 29 [.own 12,.own 17,.own 22,vvw (strs g.order)]),(8,.box 29 [vvv,vvv,vvv,vvv]),(12,.arr 122 (g.sets.map fh)),(17,.arr 89 (g.rules.map aZ)),(22,.arr 97 (g.classes.map bj)),(193,.arr 112 [])],[(5,.box 29 [.own 12,.own 17,.own 22,vvw (strs g.order)]),(8,.box 29 [vvv,vvv,vvv,vvv]),(12,.arr 122 (g.sets.map fh)),(17,.arr 89 (g.rules.map aZ)),(22,.arr 97 (g.classes.map bj)),(200,.arr 112 ((g.classes.getD (wD g p) default).cells.map cu))],[(5,.box 29 [.own 12,.own 17,.own 22,vvw (strs g.order)]),(8,.box 29 [vvv,vvv,vvv,vvv]),(12,.arr 122 (g.sets.map fh)),(17,.arr 89 (g.rules.map aZ)),(22,.arr 97 (g.classes.map bj)),(207,.arr 112 ((g.classes.getD (wD g p) default).cells.map cu++[cu ⟨[120],List.replicate (23+bw p 3).toNat 0,[],[]⟩]))]] 18 [(0,[0,1,2,3]),(1,[0,1,2,3]),(4,[0,1]),(5,[0,1]),(7,[0,1]),(8,[0,1]),(9,[0,1])] [(190,.pbox 5 2),(191,.own 22),(192,vvw (int (bw p (BJ g.classes.length)))),(193,.own 193),(194,.pbox 5 2),(195,.own 22),(196,vvw (int (bw p (BJ g.classes.length)))),(197,.pel 22 (bw p (BJ g.classes.length)).toNat 0),(198,.pel 22 (bw p (BJ g.classes.length)).toNat 5),(199,vvw (.sl ((g.classes.getD (wD g p) default).cells.map cu))),(200,.own 200),(201,vvw (int p)),(202,vvw (int (bw p 3))),(203,vvw (int (23+bw p 3))),(204,vvw (ints (List.replicate (23+bw p 3).toNat 0))),(205,vvw (cu ⟨[120],List.replicate (23+bw p 3).toNat 0,[],[]⟩)),(206,vvw (.sl [cu ⟨[120],List.replicate (23+bw p 3).toNat 0,[],[]⟩])),(207,.own 207),(2,vvw (int p)),(5,.pbox 5 0),(8,.pbox 8 0),(10,vvw (int (bw p (BJ g.classes.length))))] (ai (ai kW (ai kW (ai kW (ai kW (trivial))))) (ai (ai (aa J wo J J J) (ai (aa J wo J J J) (ai (aa J wo J J J) (ai (aa J wo J J J) (trivial))))) (ai bV (ai (ai kW (ai kW (trivial))) (ai (ai (aa J wo J J J) (ai (aa J wo J J J) (trivial))) (ai bV (ai (ai (ah J Tryz.underlying26 rm J J J (by simp only[abH,aaA];omega)) (ai (ah J Tryz.underlying26 rm J J J (by simp only[abH,aaA];omega)) (trivial))) (ai (ai (id (bn J sq J J)) (ai (id (bn J sq J J)) (trivial))) (ai (ai (c3 (el:=bj (g.classes.getD (wD g p) default)) J EW J J (Dg hspc) J) (ai (c3 (el:=bj (g.classes.getD (wD g p) default)) J EW J J (Dg hspc) J) (trivial))) (ai bV (ai (fun _=>(cg (r:=.p (int (bw p 3))) J J J (cX (most:=3) hp adj) ae)) (ai bV (ai (fun _=>(by rw[←U8];exact KG J Tryz.underlying22 Vi Yn J J J adh ae)) (ai (fun _=>(ar (aK J A9 A8 J J J) J)) (ai bV trivial))))))))))))))) (ai (fun X eC dv cZ=>xN (T:=95) (parts:=#[]) (t:=193) J J J J eC Tryz.underlying95 rH dv J J J ae) (ai (fun X eC dv cZ=>ck (T:=95) (t:=200) (u:=193) (id:=193) (y:=.tmp 199) J J J eC Tryz.underlying95 rH ((cZ 193 adj).trans J) J (dX (gp ((cZ 199 adj).trans J)) (fun _=>rfl)) (by simp only[aaA,aaE,aaL];omega) (by simp only[aaA,aaE,aaL];omega) J dv J J J ae) (ai (fun X eC dv cZ=>ck (T:=95) (t:=207) (u:=200) (id:=200) (y:=.tmp 206) J J J eC Tryz.underlying95 rH ((cZ 200 adj).trans J) J (cA (gp ((cZ 206 adj).trans J)) (bO (by rfl))) (by simp only[aaA,aaE,aaL];omega) (by simp only[aaA,aaE,aaL];omega) J dv J J J ae) (trivial)))) ?_;refine bM (n:=3) adi ?_;refine aH (i:=18) adi J J (aM J J (ah J Tryz.underlying26 rm J J J (by simp only[abH,aaA];omega))) ?_;refine aH (i:=19) adi J J (aM J J (bn J sq J J)) ?_;refine Mi (wB (l:=[(5,_),(8,_),(207,_),(209,_)]) (o':=[(5,_),(8,_),(12,_),(17,_),(22,_)]) ae ⟨.inl J,.inl J,.inr ⟨_,_,rfl,rfl,rfl⟩,.inl J,trivial⟩ ⟨rfl,rfl,rfl,rfl,rfl,trivial⟩) ?_;refine aH (i:=20) adi J J (aj J J J Hg J J (e9 (by first|(simp only[ll];omega)|omega)) J J (.inl J) J (aaz J) ae) ?_;refine bf adi ?_;refine hZ [3] [5,8] [5,8,12,17,22] ?_;refine aD 243 [(5,_),(8,_)] [(8,_)] ae J ⟨.inr ⟨_,_,rfl,rfl,rfl⟩,.inl J,trivial⟩ ⟨rfl,trivial⟩ ?_;refine oJ [6] ?_;refine ao J ?_;rotate_left;refine wS [3007] [2,5,8,10,57,210] [5,8,12,17,22] ?_ ?_<;>intro h15;refine wZ [5,5000] ?_;refine oP J (ar (aK J A9 A8 J J J) J) ?_;refine wZ [0,5000] ?_;refine oP J (ah J Tryz.underlying26 rm J J J (by simp only[abH,aaA];omega)) ?_;refine wA [0] [5,8,217,218] [5,8,12,17,22] ?_;refine oP J (bn J sq J J) ?_;refine oS J (aj J J J Hg J J (e9 (by first|(simp only[ll];omega)|omega)) J J (.inl J) J (aaz J) ae) J ?_;refine wA [4] [5,8] [5,8,12,17,22] ?_;refine aD 243 [(5,_),(8,_)] [(8,_)] ae J ⟨.inr ⟨_,_,rfl,rfl,rfl⟩,.inl J,trivial⟩ ⟨rfl,trivial⟩ ?_;refine oJ [6] ?_;refine ao J ?_;rotate_left;refine wS [3007] [2,5,8,220] [5,8,12,17,22] ?_ ?_<;>intro h16;refine wA [2] [2,5,8] [5,8,12,17,22] ?_;refine lp (fun zm zs=>∃i:Nat,zm=20-i∧(((g.rules.length+i:Nat):Int)≤15+bw p 3∨i=0)∧zs=⟨243,[(2,vvw (int p)),(5,.pbox 5 0),(8,.pbox 8 0)],[(5,.box 29 [.own 12,.own 17,.own 22,vvw (strs g.order)]),(8,.box 29 [vvv,vvv,vvv,vvv]),(12,.arr 122 (g.sets.map fh)),(17,.arr 89 ((g.rules++(List.range i).map fun i=>qR (g.rules.length+i)).map aZ)),(22,.arr 97 (g.classes.map bj))]⟩) ?_ ?_;exact⟨_,0,rfl,.inr J,by rw[List.range_zero,abW,abe];rfl⟩;rintro zm zs ⟨i,rfl,aY,rfl⟩;have hqn:(g.rules++(List.range i).map fun i=>qR (g.rules.length+i)).length=g.rules.length+i:=by rw[aaM,aaA,aa1]
 refine wA [2002,6002,1] [2,5,8,224,225] [5,8,12,17,22] ?_;refine oE J J J J J J (cX hp adj) ?_;refine wS [6000,3003] [2,5,8,228] [5,8,12,17,22] ?_ ?_<;>intro h17;refine wA [2004,4] [2,5,8,230,232] [5,8,12,17,22] ?_;refine oD J J J (c9 (a':=((g.rules.length+i:Nat):Int)) (lT J Tryz.underlying25 J) (by rw[hqn])) ?_;refine oF J J J J J J J (iC (n:=((g.rules.length+i:Nat):Int)) adh) ?_;refine oD J J J (iF J J J (by have:=mH ((g.rules.length+i:Nat):Int);simp only[aaE,aaL];omega)) ?_;refine oD J J J (ar (aK J yA my J J J) J) ?_;refine oD J J J (ar (aK J yA my J J J) J) ?_;refine oD J J J (ar (aK J Zi Zh J J J) J) ?_;refine wZ [6000,5000] ?_;refine b8 adi ?_;refine cB J (step_append J J J J Tryz.underlying25 Ul J J ae (cA J (bO (by rfl))) (by first|(simp only[ll];omega)|omega) (by first|(simp only[ll];omega)|omega)) ?_;refine sQ J J J (jQ J Uk J J) ?_;refine cB J (aP J J J V3 J J J J J ae) ?_;refine dN ?_;refine hZ [9001] [2,5,8] [5,8,12,17,22] ?_;exact⟨_,⟨i+1,rfl,.inl adh,by rw[PD];rfl⟩,adh⟩;refine wA [8] [5,8] [5,8,12,17,22] ?_;refine aD 243 [(5,_),(8,_)] [(8,_)] ae J ⟨.inr ⟨_,_,rfl,rfl,rfl⟩,.inl J,trivial⟩ ⟨rfl,trivial⟩ ?_;refine oJ [6] ?_;refine ao J ?_;rotate_left;refine wA [5] [5,8] [5,8,12,17,22] ?_;refine aD 243 [(5,_),(8,_)] [(8,_)] ae J ⟨.inr ⟨_,_,rfl,rfl,rfl⟩,.inl J,trivial⟩ ⟨rfl,trivial⟩ ?_;refine oJ [6] ?_;refine ao J ?_;rotate_left
 all_goals
  first
   | (rw[U6 adh];first|done|rfl)
   | (rw[U7 (i:=i) adh adh adh];first|done|rfl)
   | (rw[gY (h:=0) adh adh];unfold Gf;simp only[Int.reduceEq,reduceIte];rw[Jy];first|done|rfl)
   | (rw[gY (h:=1) adh adh];unfold Gf;simp only[Int.reduceEq,reduceIte];rw[BK];first|done|rfl)
   | (rw[gY (h:=2) adh adh];unfold Gf;simp only[Int.reduceEq,reduceIte];show _=RV.p (.agg [_,_,_,.sl (List.map ak _)]);rw[aaK];first|done|rfl)
   | (rw[gY (h:=3) adh adh];unfold Gf;simp only[Int.reduceEq,reduceIte];show _=RV.p (.agg [.sl (List.map fh _),_,_,_]);rw[aaK];first|done|rfl)
   | (rw[gY (h:=4) adh adh];unfold Gf;simp only[Int.reduceEq,reduceIte];show _=RV.p (.agg [.sl (List.map fh _),_,_,_]);rw[aaK];first|done|rfl)
   | (rw[gY (h:=5) adh adh];unfold Gf;simp only[Int.reduceEq,reduceIte];rw[Jy];first|done|rfl)
   | (rw[gY (h:=6) adh adh];unfold Gf;simp only[Int.reduceEq,reduceIte];rw[Jy];first|done|rfl)
   | (rw[gY (h:=7) adh adh];unfold Gf;simp only[Int.reduceEq,reduceIte];rw[Jy];first|done|rfl)
   | (rw[gY (h:=8) adh adh];unfold Gf;simp only[Int.reduceEq,reduceIte];rw[BK];first|done|rfl)
   | (rw[gY (h:=9) adh adh];unfold Gf;simp only[Int.reduceEq,reduceIte];rw[BK];first|done|rfl)
   | (rw[gY (h:=10) adh adh];unfold Gf;simp only[Int.reduceEq,reduceIte];rw[BK,PE];first|done|rfl)
   | (rw[gY (h:=11) adh adh];unfold Gf;simp only[Int.reduceEq,reduceIte];rw[BK,PE];first|done|rfl)
   | (rw[gY (h:=12) adh adh];unfold Gf;simp only[Int.reduceEq,reduceIte];rw[BK];first|done|rfl)
end Go.Proofs.YtlapahnodhmcpaaGreat
