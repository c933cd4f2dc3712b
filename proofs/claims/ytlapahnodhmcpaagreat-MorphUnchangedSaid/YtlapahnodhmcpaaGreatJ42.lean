/-
  Part of the proof.
-/
import Derived.Test.YtlapahnodhmcpaaGreatJ0
import Derived.Test.YtlapahnodhmcpaaGreatJ16
import Derived.Test.YtlapahnodhmcpaaGreatJ38
import Derived.Test.YtlapahnodhmcpaaGreatJ23
import Derived.Test.YtlapahnodhmcpaaGreatJ15
import Derived.Test.YtlapahnodhmcpaaGreatJ31
set_option linter.unusedVariables false
set_option linter.unusedSectionVars false
set_option linter.unusedSimpArgs false
set_option maxRecDepth 100000
set_option maxHeartbeats 40000000
namespace Go.Wf
open Go.Am Go.Wb Go.Wc
variable {F:List (List aK)}{w:List Int}
variable{p:Nat×Nat}
variable{z:Int}{k:Nat}
theorem pq (hF:sF F)(z:Int):(fy F z).length≤1000:=by
 by_cases h1:z<0∨(F.length:Int)≤z
 ·rw[C3 h1];exact aan _
 ·rw[rk h1];exact hF.row _ (aM acK)
theorem pr (hF:sF F)(z:Int):∀x∈fy F z,zx x:=fun x hx=>by
 by_cases h1:z<0∨(F.length:Int)≤z
 ·rw[C3 h1] at hx;cases hx
 ·rw[rk h1] at hx;exact hF.form _ (aM acK) x hx
theorem any_succ {α:Type} [Inhabited α]{p:α→Bool}{l:List α}{n:Nat}(h:n<l.length):(l.take (n+1)).any p=((l.take n).any p||p (l.getD n default)):=by rw[take_succ h,acr];simp
end Go.Wf
namespace Go.Am
section
variable {P:Program} {w0:Fr}{M0:Nat→Prop}{o:Oper}{ρ:Operand→Option SV}{ob:List (Nat×Ob)}{x y:Operand}{T T':TypeId}{c:fW}
open Go.Wf in
theorem qH {g:aC}{l:List cy}(ho:o.op=.binOp .eql T x y T')(hT:P.underlying T=some (.pointer (P.pointee T)))(hx:ρ x=some (.v c (C1 g l)))(hy:aZ ρ y=some (.pointer none)):Pure P w0 M0 o ρ ob (vvw (bool (!decide (eE g l=0)))):=by
 by_cases h:eE g l=0
 ·rw[qB h] at hx;have:=kJ (P:=P) (w0:=w0) (M0:=M0) (ob:=ob) ho hT hx hy;rwa [decide_eq_true h]
 ·rw[w7 rfl h] at hx;have:=xM (P:=P) (w0:=w0) (M0:=M0) (ob:=ob) ho hT (by unfold aZ;rw[hx];rfl) hy;rwa [decide_eq_false h]
end
end Go.Am
namespace Go.Wf
open Go.Am Go.Wb Go.Wc
def SK:List aF→List aF
 | []=>[]
 | r :: l=>{ r with pairs:=[] } :: l
def ZP (g:aC):aC:={ g with rules:=SK g.rules }
theorem C8 (l:List aF):(SK l).length=l.length:=by cases l<;>rfl
theorem Xr {l:List aF}(h:0<l.length):(SK l).getD 0 default={ l.getD 0 default with pairs:=[] }:=by
 cases l with
 | nil=>cases h
 | cons r l=>rfl
theorem Xs {l:List aF}{i:Nat}(h:i≠0):(SK l).getD i default=l.getD i default:=by
 cases l with
 | nil=>rfl
 | cons r l =>
   cases i with
   | zero=>exact absurd rfl h
   | succ i=>rfl
theorem Uu {g:aC}(h:pF g):pF (ZP g):=⟨by show(SK _).length≤_;rw[C8];exact h.nrules,fun r hr=>by
  have h1:=h.rules;revert hr h1;show r∈SK g.rules→_;cases g.rules with
  | nil=>intro hr;cases hr
  | cons q l =>
    intro hr h1;rcases aaC.1 hr with rfl|hr
    · have := h1 q (aaq ..)
      exact⟨aan _,(fun p hp=>by cases hp),this.left,this.right⟩
    · exact h1 r (aav _ hr),h.nclasses,h.classes,h.order⟩
def lP (A:Nat)(g:aC)(m:List Int):aC:=if kN m 0 2=1 then ZP g else wa A m
theorem HK (a:List aK):lv a a=true:=decide_eq_true rfl
theorem Pn (F:List (List aK))(n:Nat):lD F F n=[]:=by unfold lD;rw[List.filter_eq_nil_iff.2 (fun i _=>by rw[HK];decide)];rfl
theorem Ry {F F':List (List aK)}{n k:Nat}(h:k<n):(lD F F' n).any (fun x=>decide (x=(k:Int)))=!lv (F.getD k default) (F'.getD k default):=by
 refine abU.2 ?_;rw[aaQ];unfold lD;constructor
 ·rintro⟨x,hx,he⟩;obtain⟨i,hi,rfl⟩:=aaG.1 hx;have:i=k:=by have:=of_decide_eq_true he;omega
  subst this;exact(aa9.1 hi).2
 ·intro h1;exact⟨(k:Int),aaG.2 ⟨k,aa9.2 ⟨aaI.2 h,h1⟩,rfl⟩,decide_eq_true J⟩
theorem Jd {F:List (List aK)}{k:Nat}(h:k<F.length):fy F (k:Int)=F.getD k default:=by rw[rk acK,abC]
end Go.Wf
namespace Go.Am
section
variable {P:Program} {w0:Fr}{M0:Nat→Prop}{o:Oper}{ρ:Operand→Option SV}{ob:List (Nat×Ob)}{x y:Operand}{T T':TypeId}{c:fW}
open Go.Wf in
theorem C9 {g:aC}{l:List cy}(ho:o.op=.binOp .neq T x y T')(hT:P.underlying T=some (.pointer (P.pointee T)))(hx:ρ x=some (.v c (C1 g l)))(hy:aZ ρ y=some (.pointer none)):Pure P w0 M0 o ρ ob (vvw (bool (decide (eE g l=0)))):=by
 by_cases h:eE g l=0
 ·rw[qB h] at hx;have:=zM (P:=P) (w0:=w0) (M0:=M0) (ob:=ob) ho hT hx hy;rwa [decide_eq_true h]
 ·rw[w7 rfl h] at hx;have:=xN (P:=P) (w0:=w0) (M0:=M0) (ob:=ob) ho hT (by unfold aZ;rw[hx];rfl) hy;rwa [decide_eq_false h]
end
end Go.Am
namespace Go.Proofs.YtlapahnodhmcpaaGreat
open Go.Am Go.Wb Go.Wc Go.Wf Go.We
abbrev fn8:=dF 4 Tryz.func8
theorem Aa {l m:List Int}(hl:fx l)(hll:l.length≤9223372036854775807)(hm:fx m)(hml:m.length≤9223372036854775807):ak Tryz.prog 8 [ints l,ints m] (.p (bool true)):=by
 have hlex:=po hll hl;have hok:=Pf l;have haa:=pn l;generalize iR l=a at hlex hok haa;generalize gG a.length l=g at hlex hok;generalize fp a.length l 12=L at hlex hok;have hn:=BA hok;have hF:=hok.f;have ZQ:(aH g L).length=L.length:=by unfold aH;rw[aai]
 have hgs:=hok.gs;have hLn:=hok.n;have hos:pF (lP a.length g m):=by unfold lP;split;exact Uu hgs;exact ue acK _
 have hown:tY g L (aH g L)=[]:=by rw[zc hok.new,Pn]
 have hc1:=tZ (g:=g) (l:=L) hgs hok.n' hok.w' hF ZQ;rw[hown,hok.new] at hc1;have hc2:=tZ (g:=lP a.length g m) (l:=L) hos hok.n' hok.w' hF ZQ;have hn2:=tX (g:=lP a.length g m) (l:=L) hos hok.n' hok.w';have Uj:eE (lP a.length g m) L=0→sF (aH (lP a.length g m) L):=fun h=>oe hos (by have:=hok.n;omega)
 have ZR:(aH (lP a.length g m) L).length=L.length:=by unfold aH;rw[aai]
 have hcl:(tY (lP a.length g m) L (aH g L)).length≤1000:=by
   unfold tY;split
   · exact aaO (I7 _ _ _) hF.n
   · exact aan _
 have hry:=fun h:eE (lP a.length g m) L=0=>qB h
 have hcy:=fun h:eE (lP a.length g m) L=0=>zc (F:=aH g L) h
 have hnr:=hgs.nrules;generalize aH g L=F at hn hF ZQ hown hc1 hc2 hcl hcy;generalize aH (lP a.length g m) L=F2 at Uj ZR hry hcy;refine aU.ZN (cN fn8 fun w0 M0 aa=>?_);refine c4 [8] [1,25] [] ?_;refine oN J J J J J (hlex) ?_;refine wA [11] [1,5,6,7] [6] ?_;refine aI 145 [(1,_),(5,_),(6,_),(7,_)] [] aa J ⟨.inl J,.inl J,.inr ⟨_,_,rfl,rfl,rfl⟩,.inl J,trivial⟩ trivial ?_;refine gz [1] [1,5,6,7] [] ?_;refine oP J (au (aG J lO jN J (aah J)) J) ?_;refine wA [1] [1,5,6,7,31,32] [] ?_;refine oN J J J J J (hn) ?_;refine wA [13] [1,5,6,7,8,10,37] [] ?_;refine oP J (bj (b':=false) (kJ J Tryz.underlying35 J J) (rfl)) ?_;refine wA [2] [1,5,6,7,8,39,40] [] ?_;refine oP J (bj (b':=false) (cZ J J J) (rfl)) ?_;refine wA [9] [1,5,6,7,8,44] [] ?_;refine oP J (au (aG J lO jN J (aah J)) J) ?_;refine oN J J J J J (hc1) ?_;refine wA [11] [1,6,7,8,11,12,49,50] [] ?_;refine oN J J J J J (pk (a:=a) (l:=m) acK hml hm) ?_;refine wA [4] [1,6,7,8,11,12,13] [13] ?_;refine ct (fun zs=>zs=⟨145,[(7,vvw (.sl (L.map cS))),(8,vvw (pD L F)),(11,vvw (ints [])),(12,vvw (int 0)),(13,vvw (kn (lP a.length g m)))],[]⟩) ?_ ?_;refine wA [3] [6,7,8,11,12,13,52] [13] ?_;refine oC J J J J (eI hm acM) ?_;refine wS [3003] [6,7,8,11,12,13,54] [13] ?_ ?_<;>intro h1;refine wA [3] [6,7,8,11,12,13] [13] ?_;refine oP J (au (aG J lO jN J (aah J)) J) ?_;refine wA [10] [6,7,8,11,12,13] [13] ?_;refine bG 13 1 60 89 29 aa J J J J ?_;refine gz [5] [6,7,8,11,12,13,14] [13,60] ?_;refine lp (fun zm zs=>∃i:Nat,zm=g.rules.length-i∧(i≤g.rules.length)∧zs=⟨145,[(6,vvw (kn g)),(7,vvw (.sl (L.map cS))),(8,vvw (pD L F)),(11,vvw (ints [])),(12,vvw (int 0)),(13,.pbox 13 0),(14,vvw (int i))],[(13,.box 29 [vvw (.sl (g.sets.map jb)),.own 60,vvw (.sl (g.classes.map bL)),vvw (strs g.order)]),(60,.arr 89 (((SK g.rules).take i).map bn))]⟩) ?_ ?_;exact⟨_,0,rfl,aan _,rfl⟩;rintro zm zs ⟨i,rfl,aY,rfl⟩;have hnl:=C8 g.rules;refine wS [6,3003] [6,7,8,11,12,13,14,61] [13,60] ?_ ?_<;>intro h2;refine wS [10,3012] [6,7,8,11,12,13,14,15,70] [13,15,60] ?_ ?_<;>intro h3;refine wA [9] [6,7,8,11,12,13,14,15,73] [13,15,60] ?_;refine oP J (au (jR J TT QC J J J J) J) ?_;refine wA [0,1000,7,9002] [6,7,8,11,12,13,14] [13,60] ?_;exact⟨_,⟨i+1,rfl,acK,by rw[take_succ acK,aas,show i=0 by omega,Xr acK];rfl⟩,acK⟩;refine wA [6] [6,7,8,11,12,13,14,15,73] [13,15,60] ?_;refine oP J (au (jR J TT QC J J J J) J) ?_;refine wA [0,1000,7,9002] [6,7,8,11,12,13,14] [13,60] ?_;exact⟨_,⟨i+1,rfl,acK,by rw[take_succ acK,aas,Xs acK];rfl⟩,acK⟩;refine wA [5] [7,8,11,12,13] [13,60] ?_;refine Z5 [13] [7,8,11,12,13] [] ?_;rotate_left;refine wA [2] [7,8,11,12,13] [13] ?_;refine Z5 [13] [7,8,11,12,13] [] ?_;rotate_left;rintro zs ⟨rfl⟩;refine wA [3] [7,8,11,12,13,79] [] ?_;refine oP J (au (aG J lO jN J (aah J)) J) ?_;refine oN J J J J J (hc2) ?_;refine wA [9] [7,8,11,12,13,16,17] [] ?_;refine oP J (au (aG J lO jN J (aah J)) J) ?_;refine wA [1] [7,8,11,12,16,17,85,86] [] ?_;refine oN J J J J J (hn2) ?_;refine wA [13] [7,8,11,16,17,18,20,91] [] ?_;refine oP J (bj (b':=false) (cZ J J J) (rfl)) ?_;refine wZ [2,5000] ?_;refine oP J (bj (b':=false) (cZ J J J) (rfl)) ?_;refine wA [4] [7,8,16,18,20,98,99,100] [] ?_;refine oP J (bj (b':=false) (cZ J J J) (by simp)) ?_;refine wA [3] [7,8,16,18,20,103,104] [] ?_;refine oP J (qH J Tryz.underlying35 J J) ?_;refine wA [2] [7,8,16,18,103,105,107] [] ?_;refine oP J (bj (b':=false) (sY Tryz.underlying4 J J J) (by simp)) ?_;refine wA [13] [7,8,16,18,21] [] ?_;refine lp (fun zm zs=>∃k:Nat,zm=L.length-k∧(k≤L.length)∧zs=⟨145,[(7,vvw (.sl (L.map cS))),(8,vvw (pD L F)),(16,vvw (ints (tY (lP a.length g m) L F))),(18,vvw (C1 (lP a.length g m) L)),(21,vvw (int k))],[]⟩) ?_ ?_;exact⟨_,0,rfl,aan _,rfl⟩;rintro zm zs ⟨k,rfl,fu,rfl⟩;refine wS [5,4002] [7,8,16,18,21,114] [] ?_ ?_<;>intro h4';refine wA [1] [7,8,16,18,21,114,115] [] ?_;refine oP J (C9 J Tryz.underlying35 J J) ?_;refine wS [3003] [7,8,16,18,21,117] [] ?_ ?_<;>intro h5;have he:eE (lP a.length g m) L=0:=by assumption
 rw[hry he];refine wA [17] [7,8,16,18,21,22,23] [] ?_;refine lp (fun zm zs=>∃j:Nat,zm=(tY (lP a.length g m) L F).length-j∧(j≤(tY (lP a.length g m) L F).length)∧zs=⟨145,[(7,vvw (.sl (L.map cS))),(8,vvw (pD L F)),(16,vvw (ints (tY (lP a.length g m) L F))),(18,vvw (pD L F2)),(21,vvw (int k)),(22,vvw (bool (((tY (lP a.length g m) L F).take j).any fun x=>decide (x=(k:Int))))),(23,vvw (int j))],[]⟩) ?_ ?_;exact⟨_,0,rfl,aan _,rfl⟩;rintro zm zs ⟨j,rfl,A8,rfl⟩;refine wS [5,3003] [7,8,16,18,21,22,23,123] [] ?_ ?_<;>intro h6;refine wS [4008] [7,8,16,18,21,23,127] [] ?_ ?_<;>intro h7';refine wA [13,9002] [7,8,16,18,21,22,23] [] ?_;rotate_left;refine wA [2,10,9002] [7,8,16,18,21,22,23] [] ?_;rotate_left;refine wA [7] [7,8,16,18,21,22] [] ?_;have hfin:(lv (fy F (k:Int)) (fy F2 (k:Int)) == (((tY (lP a.length g m) L F).take j).any fun x=>decide (x=(k:Int))))=false:=by
   rw[aaB acK,Jd acK,Jd acK,hcy he,Ry acK];cases lv (F.getD k default) (F2.getD k default)<;>rfl
 refine wA [3] [7,8,16,18,21,22,135,136] [] ?_;refine oN J J J J J (fm (l:=L) (F:=F) hF) ?_;refine wA [2] [7,8,16,18,21,22,137,138,139] [] ?_;refine oN J J J J J (fm (l:=L) (F:=F2) (Uj he)) ?_;refine oC J J J J (FA (a:=fy F (k:Int)) (b:=fy F2 (k:Int)) (pq hF _) (pq (Uj he) _) (pr hF _) (pr (Uj he) _)) ?_;refine wA [1] [7,8,16,18,21,141,142] [] ?_;refine oP J (bj (b':=false) (LJ Tryz.underlying4 J J J) (hfin)) ?_;refine wA [8,9002] [7,8,16,18,21] [] ?_;exact⟨_,⟨k+1,rfl,acK,rfl⟩,acK⟩;refine wZ [8] ?_;refine oC J J J J (j9) ?_;refine wZ [8004] ?_;rfl;refine wZ [13] ?_;refine oC J J J J (j9) ?_;refine wZ [8004] ?_;rfl
 all_goals first
  | (
    first|(rw[show(lP a.length g m)=wa a.length m from if_neg acN];rfl)|(rw[show(lP a.length g m)=ZP g from if_pos acN,show i=(SK g.rules).length by rw[C8];omega,abj];rfl);done)
  | (
    refine⟨_,⟨j+1,rfl,acK,?_⟩,acK⟩;rw[any_succ acK];first|(rw[show(((tY (lP a.length g m) L F).take j).any fun x=>decide (x=(k:Int)))=true by assumption,Bool.true_or];rfl)|(rw[show(((tY (lP a.length g m) L F).take j).any fun x=>decide (x=(k:Int)))=false by assumption,acA];rfl);done)
namespace morphUnchanged
open Go.ChangeShapes Go.WideShapes Go.ChangeAt Go.RowKit Go.Am
theorem own:ownKnob Tryz.prog.godebug=none:=acL
theorem lifted (os:Os)(started:os.Started)(H:Type)(enc:TypeId×Value→H) :
  ReturnsInHanded {} Tryz.checked os 8 .any (Rows.morphUnchangedSpec.pre6 enc Tryz.prog Tryz.f8 Rows.morphUnchangedRow.domain false) (Rows.morphUnchangedSpec.post enc Tryz.prog Tryz.f8 false true false false):=by
 refine returnsInHanded_of_change (C:=Tryz.checked) own started acL Tryz.func8
  (ChangeSpec.witness6 (enc:=enc) (C:=Tryz.checked) false ⟨#[],#[.slice none 0 0,.slice none 0 0],[]⟩ 8 acL acL acL acL) ?_
 intro W base args ds gs before hval0 hW hcnd _;have hval:∀(j:Nat) t v,Tryz.f8.params[j]?=some t→args[j]?=some v→Value.okWide Tryz.prog W .any base t v:=hval0;have hW':=hW;obtain⟨p,q,Xp,hV,rfl,hfz,hnd⟩:=hW;have hA:DataW.TrodAll enc Tryz.prog W 0 (fun _=>true) true Tryz.f8.params.toList args.toList ds p:=Xp;rw[Tryz.params8] at hA hval;obtain⟨v0,vs0,d0,ds0,p0,q0,hargs,rfl,rfl,h0,r0⟩:=trodAll_cons hA;obtain⟨v1,vs1,d1,ds1,p1,q1,rfl,rfl,rfl,h1,r1⟩:=trodAll_cons r0;obtain⟨rfl,rfl,rfl⟩:=trodAll_nil r1;obtain rfl:args=#[v0,v1]:=by cases args;simp_all
 obtain⟨x0,y0,z0,e0⟩:=kv Tryz.underlying22 Tryz.underlying3 wu (hval 0 22 v0 rfl rfl) h0;obtain⟨x1,y1,z1,e1⟩:=kv Tryz.underlying22 Tryz.underlying3 wu (hval 1 22 v1 rfl rfl) h1;have hcall:=(Aa y0 z0 y1 z1).use (w:=W) (vs:=[v0,v1]) ⟨e0,e1,trivial⟩;exact xm (tb:=4) acL acL acL Tryz.underlying4 J J hW' hcall
theorem Pk:Rows.morphUnchangedRow.holds Tryz.pinned (OpenSpec.ofChange Rows.morphUnchangedSpec) :=
 OpenClaim.holds_of_wide 8 Tryz.f8 rfl rfl rfl rfl rfl rfl rfl ⟨rfl,rfl,rfl,rfl,rfl⟩ rfl rfl rfl rfl rfl acL Tryz.func8 acL
  (of_decide_eq_true acL) (by unfold Func.isWrapper;first|(rw[if_pos (by decide +kernel)];kernel_rfl)|(rw[if_neg (by decide +kernel)];exact⟨rfl,rfl⟩))
  (fun os started H enc _=>lifted os started H enc)
end morphUnchanged
theorem morphUnchanged_holds:Rows.MorphUnchangedSaid:=morphUnchanged.Pk
end Go.Proofs.YtlapahnodhmcpaaGreat
