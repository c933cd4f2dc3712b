/-
  Part of the proof.
-/
import Derived.Test.YtlapahnodhmcpaaGreatJ0
import Derived.Test.YtlapahnodhmcpaaGreatJ30
import Derived.Test.YtlapahnodhmcpaaGreatJ16
import Derived.Test.YtlapahnodhmcpaaGreatJ23
import Derived.Test.YtlapahnodhmcpaaGreatJ19
import Derived.Test.YtlapahnodhmcpaaGreatJ27
set_option linter.unusedVariables false
set_option linter.unusedSectionVars false
set_option linter.unusedSimpArgs false
set_option maxRecDepth 100000
set_option maxHeartbeats 40000000
namespace Go.Wf
open Go.Am Go.Wb Go.Wc
structure XX (x:gL):Prop where
 pre:x.pre.length≤1000
 suf:x.suf.length≤1000
 change:x.change.length≤1000
structure WL (c:iq):Prop where
 cells:c.cells.length≤1000
 cell:∀x∈c.cells,XX x
 fits:c.fits.size≤1048576
 sim:(dy c.fits).size≤10000
structure sk (g:aI):Prop where
 nrules:g.rules.length≤1000
 rules:∀r∈g.rules,Qg r
 nclasses:g.classes.length≤1000
 classes:∀c∈g.classes,WL c
 order:g.order.length≤1000
theorem NF:WL D6:=⟨by decide,(fun x hx=>by cases hx),by decide,by decide +kernel⟩
theorem NG:XX HU:=⟨by decide,by decide,by decide⟩
theorem yl {α:Type}{f:α→List UInt8}{l:List α}{n:List UInt8}{x:α}(h:pV f l n=some x):x∈l:=abw h
def bh (g:aI)(cl:List UInt8):iq:=(fF g cl).getD D6
def bP (g:aI)(cl cn:List UInt8):gL:=(mQ (bh g cl) cn).getD HU
theorem lb {g:aI}(h:sk g)(cl:List UInt8):WL (bh g cl):=by
 unfold bh
 cases hc:fF g cl with
 | none=>exact NF
 | some c=>exact h.classes c (yl hc)
theorem jt {g:aI}(h:sk g)(cl cn:List UInt8):XX (bP g cl cn):=by
 unfold bP
 cases hc:mQ (bh g cl) cn with
 | none=>exact NG
 | some c=>exact(lb h cl).cell c (yl hc)
theorem gM {g:aI}{l:List (List UInt8)}{r:aG}(h:r∈bq g l):r∈g.rules:=by
 unfold bq at h
 by_cases ho:mR g l=true
 ·rw[if_pos ho] at h
  unfold vP at h
  obtain⟨n,hn,rfl⟩:=aao.1 h
  have:=aam.1 ho n hn
  obtain⟨x,hx⟩:=Option.isSome_iff_exists.1 this
  rw[hx];exact yl hx
 ·rw[if_neg ho] at h;cases h
theorem kH {g:aI}{l:List (List UInt8)}:(bq g l).length≤l.length:=by
 unfold bq
 split
 ·rw[x6];exact Z1 _
 ·exact Z5 _
def j1 (g:aI)(cl cn:List UInt8):Bool:=decide (0≤(bh g cl).strip)&&decide ((bh g cl).strip≤24)&&uF (bP g cl cn).pre&&uF (bP g cl cn).suf&&aQ (bh g cl).fits &&
 (bq g (bP g cl cn).change).all bI&&(bq g g.order).all bI
def iN (g:aI)(cl cn:List UInt8):Bool:=(fF g cl).isSome&&(mQ (bh g cl) cn).isSome&&mR g (bP g cl cn).change&&mR g g.order
def gP (g:aI)(cl cn:List UInt8):Int:=if iN g cl cn=false then 6 else if j1 g cl cn=false then 1 else 0
def B8 (c:iq)(x:gL)(ch od:List aG):List AV:=oM c++D4 x++[.sl (ch.map bm),.sl (od.map bm)]
def RP:AV:=.agg (B8 D6 HU [] [])
def XY (g:aI)(cl cn:List UInt8):AV:=.agg (B8 (bh g cl) (bP g cl cn) (bq g (bP g cl cn).change) (bq g g.order))
theorem vA {g:aI}{cl cn:List UInt8}(h:iN g cl cn=false):gP g cl cn=6:=if_pos h
theorem H8 {g:aI}{cl cn:List UInt8}(h:iN g cl cn=true)(h2:j1 g cl cn=false):gP g cl cn=1:=by unfold gP;rw[if_neg (by rw[h];decide),if_pos h2]
theorem RQ {g:aI}{cl cn:List UInt8}(h:iN g cl cn=true)(h2:j1 g cl cn=true):gP g cl cn=0:=by unfold gP;rw[if_neg (by rw[h];decide),if_neg (by rw[h2];decide)]
theorem Tp {g:aI}{cl cn:List UInt8}(h:0≤eB (fun x:gL=>decide (x.name=cn)) (bh g cl).cells) :
  (bh g cl).cells.getD (eB (fun x:gL=>decide (x.name=cn)) (bh g cl).cells).toNat default=bP g cl cn∧(mQ (bh g cl) cn).isSome=true:=by
 have:=qH (f:=fun x:gL=>x.name) (l:=(bh g cl).cells) (n:=cn)
 have h1:mQ (bh g cl) cn=_:=this.1 h
 unfold bP
 rw[h1];exact⟨rfl,rfl⟩
theorem Tq {g:aI}{cl cn:List UInt8}(h:eB (fun x:gL=>decide (x.name=cn)) (bh g cl).cells<0):(mQ (bh g cl) cn).isSome=false:=by
 have:=qH (f:=fun x:gL=>x.name) (l:=(bh g cl).cells) (n:=cn)
 have h1:mQ (bh g cl) cn=_:=this.2 h
 rw[h1];rfl
theorem Tr {g:aI}{cl cn:List UInt8}(h:(bq g (bP g cl cn).change).all bI=false):j1 g cl cn=false:=by unfold j1;rw[h,abi];rfl
theorem Ts {g:aI}{cl cn:List UInt8}(h:(bq g g.order).all bI=false):j1 g cl cn=false:=by unfold j1;rw[h,abi]
theorem RR {g:aI}{cl cn:List UInt8}(h:(fF g cl).isSome=false):iN g cl cn=false:=by unfold iN;rw[h];rfl
theorem V6 {g:aI}{cl cn:List UInt8}(h:eB (fun x:gL=>decide (x.name=cn)) (bh g cl).cells<0):iN g cl cn=false:=by unfold iN;rw[Tq h,abi];rfl
theorem RS {g:aI}{cl cn:List UInt8}(h:mR g (bP g cl cn).change=false):iN g cl cn=false:=by unfold iN;rw[h,abi];rfl
theorem RT {g:aI}{cl cn:List UInt8}(h:mR g g.order=false):iN g cl cn=false:=by unfold iN;rw[h,abi]
theorem AJ {g:aI}{cl cn:List UInt8}(h1:(fF g cl).isSome=true)(h2:(mQ (bh g cl) cn).isSome=true)(h3:mR g (bP g cl cn).change=true)(h4:mR g g.order=true):iN g cl cn=true:=by unfold iN;rw[h1,h2,h3,h4];rfl
end Go.Wf
namespace Go.Am
theorem j2 {P:Program}{w0:Fr}{M0:Nat→Prop}{o:Oper}{ρ:Operand→Option SV}{α:Type} [Inhabited α]{f:α→AV}{l:List α}{ob:List (Nat×Ob)}{x y:Operand}{T e:TypeId}{c:fQ}{k:Nat}{q:IntKind}{n:Int}{i:Nat}{z:α}(hz:l.getD i default=z)(ho:o.op=.indexAddr T x y)(hT:P.underlying T=some (.slice e))(hk:bW P e=some k)
 (hx:viewAt ρ ob x=some (c,.sl (l.map f)))(hy:bj ρ y=some (.int q n)) [hi:Ix n i](h:0≤n∧n<l.length)(hc:∀z,(AV.cells (f z)).length=k) :
 Pure P w0 M0 o ρ ob (.v c (.pc (AV.cells (f z)) 0)):=by subst hz;exact ee ho hT hk hx hy h hc
end Go.Am
namespace Go.Proofs.YtlapahnodhmcpaaGreat
open Go.Am Go.Wb Go.Wc Go.Wf Go.We
abbrev V7:=dU 2 Tryz.func140
theorem Gz {r:aG}(h:Qg r):aq Tryz.prog 140 ([bm r]++[]) (.p (bool (!bI r))):=by
 refine cF V7 fun w0 M0 aa=>?_
 refine c6 [2,6] [3] [] ?_
 refine oC J J J J (D3 (by have:=h.pairs;omega) (fun p hp=>aau (h.dst p hp) acg) (by have:=h.left;omega) (by have:=h.right;omega)) ?_
 refine wZ [8005] ?_
 rfl
abbrev V8:=dU 4 Tryz.func144
theorem GA {l:List aG}{p:aG→Bool}{g:FuncId}{caps:List AV}(hl:l.length≤1099511627776)(hf:∀x∈l,aq Tryz.prog g ([bm x]++caps) (.p (bool (p x)))):aq Tryz.prog 144 [.sl (l.map bm),.clo g caps] (.p (bool (l.any p))):=by
 refine cF V8 fun w0 M0 aa=>?_
 refine c6 [9] [5,6] [] ?_
 refine oC J J J J (yf hl hf) ?_
 refine wZ [8005] ?_
 rw[vU]
theorem ym {l:List aG}(hl:l.length≤1099511627776)(h:∀r∈l,Qg r):aq Tryz.prog 144 [.sl (l.map bm),.clo 140 []] (.p (bool (!l.all bI))):=by
 have:=GA (p:=fun x=>!bI x) hl (fun x hx=>Gz (h x hx))
 rwa [←List.not_all_eq_any_not] at this
theorem XZ:Ba Tryz.prog 95 Tryz.f95.ntmps 6 160 12 7 (Tryz.f95.body.getD .skip):=⟨Tryz.f95,Tryz.func95,rfl,rfl,rfl,acf,UR,Rw⟩
theorem Ep {g:aI}{cl:List UInt8}(hl:g.classes.length≤1099511627776):aX Tryz.prog 80 [df g,aj cl] (.p (.tup [bT (bh g cl),bool (fF g cl).isSome])):=ye hl
theorem AK {g:aI}{cl cn:List UInt8}(hg:sk g):aX Tryz.prog 95 [df g,aj cl,aj cn] (.p (.tup [if gP g cl cn=0 then XY g cl cn else RP,int (gP g cl cn)])):=by
 refine du XZ (ZZ J) fun w0 M0 aa=>?_
 refine c6 [2,0,8] [3,5,6,16,17] [6] ?_
 refine oN J J J J J (Ep (by have:=hg.nclasses;omega)) ?_
 refine wA [9] [3,5,6,8,9] [6,8] ?_
 refine aS 105 [(3,_),(5,_),(6,_),(8,_),(9,_)] [(6,_)] aa J ⟨.inl J,.inl J,.inl J,.inr ⟨_,_,rfl,rfl,rfl⟩,.inl J,trivial⟩ ⟨rfl,trivial⟩ ?_
 refine Cw [3,5000] ?_
 refine oC J J J J (Gw (l:=(bh g cl).cells) (p:=fun x=>decide (x.name=cn)) (by have:=(lb hg cl).cells;omega) (fun x hx=>Gx)) ?_
 refine wS [4009] [3,6,8,10,27] [6] ?_ ?_<;>intro h1'
 refine wA [8] [6] [6] ?_
 refine oP J (aC (aF J o4 nH J J J) J) ?_
 refine wZ [6] ?_
 refine bA J J ?_;rotate_left
 refine wS [3005] [3,6,8,10,30] [6] ?_ ?_<;>intro h2
 refine wA [3] [6] [6] ?_
 refine oP J (aC (aF J o4 nH J J J) J) ?_
 refine wZ [6] ?_
 refine bA J J ?_;rotate_left
 have hX:=Tp (g:=g) (cl:=cl) (cn:=cn) (by simp_all;first|done|omega)
 have hlt:=RE (p:=fun x:gL=>decide (x.name=cn)) (l:=(bh g cl).cells)
 refine wA [4] [3,6,8,10] [6] ?_
 refine bw (n:=105) 2 (fun p=>[7,8].getD p 0) (fun p=>[[(6,.box 160 [vvw (.sc (.string ⟨#[]⟩)),vvw (.sc (.int .i64 0)),vvv,vvv,vvw (.sc (.int .i64 0)),vvv,vvw (.sc (.string ⟨#[]⟩)),vvv,vvv,vvv,vvv,vvv])],[(6,.box 160 [vvw (.sc (.string ⟨#[]⟩)),vvw (.sc (.int .i64 0)),vvv,vvv,vvw (.sc (.int .i64 0)),vvv,vvw (.sc (.string ⟨#[]⟩)),vvv,vvv,vvv,vvv,vvv]),(11,.box 160 [vvw (.sc (.string ⟨#[]⟩)),vvw (.sc (.int .i64 0)),vvv,vvv,vvw (.sc (.int .i64 0)),vvv,vvw (.sc (.string ⟨#[]⟩)),vvv,vvv,vvv,vvv,vvv])],[(6,.box 160 [vvw (.sc (.string ⟨#[]⟩)),vvw (.sc (.int .i64 0)),vvv,vvv,vvw (.sc (.int .i64 0)),vvv,vvw (.sc (.string ⟨#[]⟩)),vvv,vvv,vvv,vvv,vvv]),(11,.box 160 [vvw (aj (bh g cl).name),vvw (int (bh g cl).fits.kind),vvw (ints (bh g cl).fits.syms),vvw (.sl (Rx.gi (bh g cl).fits.kids)),vvw (int (bh g cl).strip),vvw (.sl ((bh g cl).cells.map dv)),vvw (aj (bP g cl cn).name),vvw (ints (bP g cl cn).pre),vvw (ints (bP g cl cn).suf),vvw (strs (bP g cl cn).change),vvw (.sl []),vvw (.sl [])])]].getD p []) 9 [(0,none),(1,none),(2,none),(3,none),(4,none),(5,none),(6,none)] [(32,vvw (bT (bh g cl))),(33,vvw (.pc (oM (bh g cl)) 5)),(34,vvw (.sl ((bh g cl).cells.map dv))),(35,vvw (int (eB (fun x:gL=>decide (x.name=cn)) (bh g cl).cells))),(36,vvw (.pc (D4 (bP g cl cn)) 0)),(37,vvw (dv (bP g cl cn))),(38,vvw (.agg (B8 (bh g cl) (bP g cl cn) [] []))),(11,.pbox 11 0),(3,vvw (iF g)),(6,.pbox 6 0),(8,vvw (BY (bh g cl))),(10,vvw (int (eB (fun x:gL=>decide (x.name=cn)) (bh g cl).cells)))] mixed acf acf acf acf acf ?_ (fun t d h=>h) J ?_ ?_ ?_
 ·rfl
 ·exact
   ai (fun _=>(aC (aM J Te JF J (ZZ J)) J)) (
   ai (fun _=>(b9 J uz J)) (
   ai (fun _=>(cA J JE J J)) (
   ai (fun _=>(af J J)) (
   ai (fun _=>(j2 (f:=dv) (l:=(bh g cl).cells) (z:=bP g cl cn) hX.1 J Tryz.underlying95 HL J J ace (fun _=>rfl))) (
   ai (fun _=>(aC (aM J Rt HL J (ZZ J)) J)) (
   ai (fun _=>(aC (aF J o4 nH J J J) J)) (
   trivial)))))))
 ·exact ai (fun X fl dO dh=>gZ (t:=11) rfl rfl rfl rfl fl nH rfl rfl (fun t' z h hne=>fz (by rfl) (dO t' z h) hne) rfl aa) (ai (fun X fl dO dh=>cr rfl (cq (u:=11) (v:=38) (id:=11) rfl rfl fl Rw ((dh 11 acg).trans rfl) rfl ((dh 38 acg).trans rfl) rfl acg rfl rfl (fun t' z h=>cO (by rfl) (dO t' z h)) rfl aa)) (trivial))
 refine bO (n:=0) acf ?_
 refine bg acf ?_
 refine jl [13] [3,6,8,11,40,43] [6,11] ?_
 refine oN J J J J J (yg (l:=(bP g cl cn).change) (by have:=hg.nrules;omega) (by have:=(jt hg cl cn).change;omega)) ?_
 refine wA [13] [6,8,11,12,49,51] [6,11] ?_
 refine oN J J J J J (yg (l:=g.order) (by have:=hg.nrules;omega) (by have:=hg.order;omega)) ?_
 refine wS [4014] [6,8,11,13,58] [6,11] ?_ ?_<;>intro h3'
 refine wA [8] [6] [6] ?_
 refine oP J (aC (aF J o4 nH J J J) J) ?_
 refine wZ [6] ?_
 refine bA J J ?_;rotate_left
 refine wS [3005] [6,8,11,61] [6,11] ?_ ?_<;>intro h4
 refine wA [3] [6] [6] ?_
 refine oP J (aC (aF J o4 nH J J J) J) ?_
 refine wZ [6] ?_
 refine bA J J ?_;rotate_left
 refine wS [4015] [6,8,11,14,66] [6,11] ?_ ?_<;>intro h5'
 refine wA [41] [6] [6] ?_
 refine oP J (aC (aF J o4 nH J J J) J) ?_
 refine wZ [6] ?_
 refine bA J J ?_;rotate_left
 refine wS [4005] [6,8,11,14,71] [6,11] ?_ ?_<;>intro h6'
 refine wA [36] [6] [6] ?_
 refine oP J (aC (aF J o4 nH J J J) J) ?_
 refine wZ [6] ?_
 refine bA J J ?_;rotate_left
 refine wA [3] [6,8,11,14,71,74] [6,11] ?_
 refine oC J J J J (yi (w:=(bP g cl cn).pre) (by have:=(jt hg cl cn).pre;omega)) ?_
 refine wS [4003] [6,8,11,14,78] [6,11] ?_ ?_<;>intro h7'
 refine wA [29] [6] [6] ?_
 refine oP J (aC (aF J o4 nH J J J) J) ?_
 refine wZ [6] ?_
 refine bA J J ?_;rotate_left
 refine wA [3] [6,8,11,14,78,81] [6,11] ?_
 refine oC J J J J (yi (w:=(bP g cl cn).suf) (by have:=(jt hg cl cn).suf;omega)) ?_
 refine wS [4003] [6,8,11,14,85] [6,11] ?_ ?_<;>intro h8'
 refine wA [22] [6] [6] ?_
 refine oP J (aC (aF J o4 nH J J J) J) ?_
 refine wZ [6] ?_
 refine bA J J ?_;rotate_left
 refine wA [2] [6,11,14,85,87] [6,11] ?_
 refine oC J J J J (me _ (bh g cl).fits (Z1 _) (by have:=(lb hg cl).fits;omega)) ?_
 refine wS [4003] [6,11,14,91] [6,11] ?_ ?_<;>intro h9'
 refine wA [16] [6] [6] ?_
 refine oP J (aC (aF J o4 nH J J J) J) ?_
 refine wZ [6] ?_
 refine bA J J ?_;rotate_left
 refine wA [3] [6,11,14,91,93,94] [6,11] ?_
 refine oC J J J J (ym (l:=bq g (bP g cl cn).change) (by have:=kH (g:=g) (l:=(bP g cl cn).change);have:=(jt hg cl cn).change;omega) (fun x hx=>hg.rules x (gM hx))) ?_
 refine wS [4002] [6,11,14,97] [6,11] ?_ ?_<;>intro h10'
 refine wA [10] [6] [6] ?_
 refine oP J (aC (aF J o4 nH J J J) J) ?_
 refine wZ [6] ?_
 refine bA J J ?_;rotate_left
 refine wA [3] [6,11,97,99,100] [6,11] ?_
 refine oC J J J J (ym (l:=bq g g.order) (by have:=kH (g:=g) (l:=g.order);have:=hg.order;omega) (fun x hx=>hg.rules x (gM hx))) ?_
 refine wS [3003] [6,11,102] [6,11] ?_ ?_<;>intro h11
 refine wA [3] [6] [6] ?_
 refine oP J (aC (aF J o4 nH J J J) J) ?_
 refine wZ [6] ?_
 refine bA J J ?_;rotate_left
 refine wZ [11] ?_
 refine bA J J ?_;rotate_left
 all_goals
  first
   | (rw[vA (RR ach)];exact⟨rfl,rfl⟩)
   | (rw[vA (V6 ace)];exact⟨rfl,rfl⟩)
   | (rw[vA (RS ach)];exact⟨rfl,rfl⟩)
   | (rw[vA (RT ach)];exact⟨rfl,rfl⟩)
   | (rw[H8 (AJ ach hX.2 ach ach) (Tr ach)];exact⟨rfl,rfl⟩)
   | (rw[H8 (AJ ach hX.2 ach ach) (Ts ach)];exact⟨rfl,rfl⟩)
   | (rw[H8 (AJ ach hX.2 ach ach) (by unfold j1;simp_all;first|done|omega)];exact⟨rfl,rfl⟩)
   | (rw[RQ (AJ ach hX.2 ach ach) (by unfold j1;simp_all;first|done|omega)];exact⟨rfl,rfl⟩)
end Go.Proofs.YtlapahnodhmcpaaGreat
namespace Go.Wf
open Go.Am Go.Wb Go.Wc
def okB (g:aI)(cl cn:List UInt8):Bool:=decide (0≤(bh g cl).strip)&&decide ((bh g cl).strip≤24)&&decide ((bP g cl cn).pre.length≤24)&&decide ((bP g cl cn).suf.length≤24)&&gu (bP g cl cn).pre&&gu (bP g cl cn).suf&&aQ (bh g cl).fits
theorem Tt (g:aI)(cl cn:List UInt8):j1 g cl cn=(okB g cl cn&&(bq g (bP g cl cn).change).all bI&&(bq g g.order).all bI):=by
 unfold j1 okB uF
 generalize decide (0≤(bh g cl).strip)=a1
 generalize decide ((bh g cl).strip≤24)=a2
 generalize decide ((bP g cl cn).pre.length≤24)=a3
 generalize decide ((bP g cl cn).suf.length≤24)=a4
 generalize gu (bP g cl cn).pre=a5
 generalize gu (bP g cl cn).suf=a6
 generalize aQ (bh g cl).fits=a7
 cases a1<;>cases a2<;>cases a3<;>cases a4<;>cases a5<;>cases a6<;>cases a7<;>rfl
theorem all_succ {α:Type} [Inhabited α]{p:α→Bool}{l:List α}{i:Nat}(h:i<l.length):(l.take (i+1)).all p=((l.take i).all p&&p (l.getD i default)):=by
 rw[take_succ h,List.all_append];simp
def NH (g:aI)(cl cn:List UInt8)(i:Nat):Bool:=okB g cl cn&&((bq g (bP g cl cn).change).take i).all bI
def OG (g:aI)(cl cn:List UInt8)(i:Nat):Bool:=NH g cl cn (bq g (bP g cl cn).change).length&&((bq g g.order).take i).all bI
theorem V9 {g:aI}{cl cn:List UInt8}:NH g cl cn 0=okB g cl cn:=by unfold NH;rw[acd,List.all_nil,Bool.and_true]
theorem Wa {g:aI}{cl cn:List UInt8}:OG g cl cn 0=NH g cl cn (bq g (bP g cl cn).change).length:=by unfold OG;rw[acd,List.all_nil,Bool.and_true]
theorem NI {g:aI}{cl cn:List UInt8}{i:Nat}(h:i<(bq g (bP g cl cn).change).length):NH g cl cn (i+1)=(NH g cl cn i&&bI ((bq g (bP g cl cn).change).getD i default)):=by unfold NH;rw[all_succ h,Bool.and_assoc]
theorem NJ {g:aI}{cl cn:List UInt8}{i:Nat}(h:i<(bq g g.order).length):OG g cl cn (i+1)=(OG g cl cn i&&bI ((bq g g.order).getD i default)):=by unfold OG;rw[all_succ h,Bool.and_assoc]
theorem RU {g:aI}{cl cn:List UInt8}(i:Nat)(hi:(bq g g.order).length≤i){z:Bool}(h:OG g cl cn i=z):j1 g cl cn=z:=by
 rw[Tt,←h]
 unfold OG NH
 rw[aaj hi,aa1]
theorem Wd {g:aI}{cl cn:List UInt8}(h:(mQ (bh g cl) cn).isSome=false):iN g cl cn=false:=by unfold iN;rw[h,abi];rfl
end Go.Wf
namespace Go.Proofs.YtlapahnodhmcpaaGreat
open Go.Am Go.Wb Go.Wc Go.Wf Go.We
theorem Wg:QS Tryz.prog 112 Tryz.f112.ntmps 6 7 8 (Tryz.f112.body.getD .skip):=⟨Tryz.f112,Tryz.func112,rfl,rfl,rfl,acf⟩
theorem oT {g:aI}{cl:List UInt8}(hl:g.classes.length≤1099511627776):aX Tryz.prog 78 [df g,aj cl] (.p (.tup [bT (bh g cl),bool (fF g cl).isSome])):=El hl
theorem vB {g:aI}{cl cn:List UInt8}(hl:(bh g cl).cells.length≤1099511627776):aX Tryz.prog 113 [bT (bh g cl),aj cn] (.p (.tup [dv (bP g cl cn),bool (mQ (bh g cl) cn).isSome])):=Gv hl
theorem tv {g:aI}{cl cn:List UInt8}(hg:sk g):aX Tryz.prog 112 [df g,aj cl,aj cn] (.p (.tup [.sl ((if gP g cl cn=0 then bq g (bP g cl cn).change else[]).map bm),.sl ((if gP g cl cn=0 then bq g g.order else[]).map bm),int (gP g cl cn)])):=by
 have hch:(bq g (bP g cl cn).change).length≤1000:=aau kH (jt hg cl cn).change
 have hod:(bq g g.order).length≤1000:=aau kH hg.order
 refine py Wg (ZZ J) fun w0 M0 aa=>?_
 refine c6 [2,9] [2,3,21,22] [] ?_
 refine oN J J J J J (oT (by have:=hg.nclasses;omega)) ?_
 refine wA [9] [2,3,9,10] [9] ?_
 refine aS 127 [(2,_),(3,_),(9,_),(10,_)] [] aa J ⟨.inl J,.inl J,.inr ⟨_,_,rfl,rfl,rfl⟩,.inl J,trivial⟩ trivial ?_
 refine gS [3] [3,9,10,27,28] [] ?_
 refine oN J J J J J (vB (by have:=(lb hg cl).cells;omega)) ?_
 refine wA [9] [3,9,10,11,12] [11] ?_
 refine aS 127 [(3,_),(9,_),(10,_),(11,_),(12,_)] [] aa J ⟨.inl J,.inl J,.inl J,.inr ⟨_,_,rfl,rfl,rfl⟩,.inl J,trivial⟩ trivial ?_
 refine gS [4] [3,9,10,11,12,33,35] [] ?_
 refine oN J J J J J (vy (l:=(bP g cl cn).change) (by have:=hg.nrules;omega) (by have:=(jt hg cl cn).change;omega)) ?_
 refine wA [12] [9,10,11,12,13,14,40,42] [] ?_
 refine oN J J J J J (vy (l:=g.order) (by have:=hg.nrules;omega) (by have:=hg.order;omega)) ?_
 refine wS [4013] [9,11,12,13,14,15,16,48] [] ?_ ?_<;>intro h1'
 refine wZ [23] ?_
 refine gm J J J ?_;rotate_left
 refine wS [4004] [9,11,13,14,15,16,52] [] ?_ ?_<;>intro h2'
 refine wZ [19] ?_
 refine gm J J J ?_;rotate_left
 refine wS [4004] [9,11,13,15,16,56] [] ?_ ?_<;>intro h3'
 refine wZ [15] ?_
 refine gm J J J ?_;rotate_left
 refine wS [3005] [9,11,13,15,59] [] ?_ ?_<;>intro h4
 refine wZ [10] ?_
 refine gm J J J ?_;rotate_left
 refine wA [3] [9,11,13,15] [] ?_
 refine ct (fun zs=>∃z:Bool,(z=(okB g cl cn))∧zs=⟨127,[(13,vvw (.sl ((bq g (bP g cl cn).change).map bm))),(15,vvw (.sl ((bq g g.order).map bm))),(17,vvw (bool z))],[]⟩) ?_ ?_
 refine wS [4005] [9,11,13,15,63] [] ?_ ?_<;>intro h5'
 refine wS [4005] [9,11,13,15,68] [] ?_ ?_<;>intro h6'
 refine wS [2,4003] [9,11,13,15,74] [] ?_ ?_<;>intro h7'
 refine wS [2,4003] [9,11,13,15,80] [] ?_ ?_<;>intro h8'
 refine wA [2] [9,11,13,15,80,82] [] ?_
 refine oC J J J J (nh (w:=(bP g cl cn).pre) (by have:=(jt hg cl cn).pre;omega)) ?_
 refine wS [4002] [9,11,13,15,85] [] ?_ ?_<;>intro h9'
 refine wA [2] [9,13,15,85,87] [] ?_
 refine oC J J J J (nh (w:=(bP g cl cn).suf) (by have:=(jt hg cl cn).suf;omega)) ?_
 refine wS [4002] [9,13,15,90] [] ?_ ?_<;>intro h10'
 refine wA [2] [13,15,90,92] [] ?_
 refine oC J J J J (kW _ (bh g cl).fits (Z1 _) (by have:=(lb hg cl).fits;omega)) ?_
 refine wA [10003] [13,15,17] [] ?_;rotate_left
 refine wA [10006] [13,15,17] [] ?_;rotate_left
 refine wA [10011] [13,15,17] [] ?_;rotate_left
 refine wA [10016] [13,15,17] [] ?_;rotate_left
 refine wA [10022] [13,15,17] [] ?_;rotate_left
 refine wA [10028] [13,15,17] [] ?_;rotate_left
 refine wA [10033] [13,15,17] [] ?_;rotate_left
 rintro zs ⟨z,vo,rfl⟩
 refine wA [7] [13,15,17,18] [] ?_
 subst vo
 refine lp (fun zm zs=>∃i:Nat,zm=(bq g (bP g cl cn).change).length-i∧(i≤(bq g (bP g cl cn).change).length)∧zs=⟨127,[(13,vvw (.sl ((bq g (bP g cl cn).change).map bm))),(15,vvw (.sl ((bq g g.order).map bm))),(17,vvw (bool (NH g cl cn i))),(18,vvw (int i))],[]⟩) ?_ ?_
 exact⟨_,0,rfl,Z5 _,by rw[V9];rfl⟩
 rintro zm zs ⟨i,rfl,aZ,rfl⟩
 refine wS [5,3003] [13,15,17,18,98] [] ?_ ?_<;>intro h11
 refine wS [4008] [13,15,18,102] [] ?_ ?_<;>intro h12'
 refine wA [2,1] [13,15,18,102,106] [] ?_
 refine oC J J J J (oK (r:=(bq g (bP g cl cn).change).getD i default) (by have:=(hg.rules _ (gM (ba (by omega:i<(bq g (bP g cl cn).change).length)))).pairs;omega) (fun p hp=>aau ((hg.rules _ (gM (ba (by omega:i<(bq g (bP g cl cn).change).length)))).dst p hp) acg) (by have:=(hg.rules _ (gM (ba (by omega:i<(bq g (bP g cl cn).change).length)))).left;omega) (by have:=(hg.rules _ (gM (ba (by omega:i<(bq g (bP g cl cn).change).length)))).right;omega)) ?_
 refine wA [7,9002] [13,15,17,18] [] ?_;rotate_left
 refine wA [12,9002] [13,15,17,18] [] ?_;rotate_left
 refine wA [13] [13,15,17,19] [] ?_
 obtain rfl:i=(bq g (bP g cl cn).change).length:=ace
 refine lp (fun zm zs=>∃i:Nat,zm=(bq g g.order).length-i∧(i≤(bq g g.order).length)∧zs=⟨127,[(13,vvw (.sl ((bq g (bP g cl cn).change).map bm))),(15,vvw (.sl ((bq g g.order).map bm))),(17,vvw (bool (OG g cl cn i))),(19,vvw (int i))],[]⟩) ?_ ?_
 exact⟨_,0,rfl,Z5 _,by rw[Wa];rfl⟩
 rintro zm zs ⟨i,rfl,fU,rfl⟩
 refine wS [5,3003] [13,15,17,19,112] [] ?_ ?_<;>intro h13
 refine wS [4008] [13,15,19,116] [] ?_ ?_<;>intro h14'
 refine wA [2,1] [13,15,19,116,120] [] ?_
 refine oC J J J J (oK (r:=(bq g g.order).getD i default) (by have:=(hg.rules _ (gM (ba (by omega:i<(bq g g.order).length)))).pairs;omega) (fun p hp=>aau ((hg.rules _ (gM (ba (by omega:i<(bq g g.order).length)))).dst p hp) acg) (by have:=(hg.rules _ (gM (ba (by omega:i<(bq g g.order).length)))).left;omega) (by have:=(hg.rules _ (gM (ba (by omega:i<(bq g g.order).length)))).right;omega)) ?_
 refine wA [7,9002] [13,15,17,19] [] ?_;rotate_left
 refine wA [12,9002] [13,15,17,19] [] ?_;rotate_left
 refine wS [3013] [13,15,124] [] ?_ ?_<;>intro h15
 refine wZ [10] ?_
 refine gm J J J ?_;rotate_left
 refine wZ [13] ?_
 refine gm J J J ?_;rotate_left
 all_goals first
  | (
    first
      | (rw[vA (RR ach)];exact⟨rfl,rfl,rfl⟩)
      | (rw[vA (Wd ach)];exact⟨rfl,rfl,rfl⟩)
      | (rw[vA (RS ach)];exact⟨rfl,rfl,rfl⟩)
      | (rw[vA (RT ach)];exact⟨rfl,rfl,rfl⟩)
      | (rw[H8 (AJ ach ach ach ach) (RU i ace ach)];exact⟨rfl,rfl,rfl⟩)
      | (rw[RQ (AJ ach ach ach ach) (RU i ace ach)];exact⟨rfl,rfl,rfl⟩);done)
  | (
    exact⟨_,by unfold okB;simp_all;first|done|omega,rfl⟩;done)
  | (
    refine⟨_,⟨i+1,rfl,ace,?_⟩,ace⟩
    rw[NI ace];first|(rw[show NH g cl cn i=true by assumption,aaZ];rfl)|(rw[show NH g cl cn i=false by assumption,abc];rfl);done)
  | (
    refine⟨_,⟨i+1,rfl,ace,?_⟩,ace⟩
    rw[NJ ace];first|(rw[show OG g cl cn i=true by assumption,aaZ];rfl)|(rw[show OG g cl cn i=false by assumption,abc];rfl);done)
end Go.Proofs.YtlapahnodhmcpaaGreat
namespace Go.Wf
open Go.Am Go.Wb Go.Wc
def fj (l:List Int):Int:=l.getD (l.length-1) default
def nL (w:List Int)(i:Nat):Int:=((gO (w.take i)).length:Nat)
def eY (w:List Int):Nat→List Int
 | 0=>[]
 | i+1=>if w.getD i default=63 then(if nL w i=0∨nL w i=((gO w).length:Nat)∨(0<(eY w i).length∧fj (eY w i)=nL w i) then eY w i else eY w i++[nL w i]) else eY w i
def J3 (w:List Int):List Int:=eY w w.length
theorem B9 {w:List Int}{i:Nat}(h:i<w.length)(hx:w.getD i default≠63):nL w (i+1)=nL w i+1:=by
 unfold nL;rw[lJ h,if_neg hx];simp
theorem wv {w:List Int}{i:Nat}(h:i<w.length)(hx:w.getD i default=63):nL w (i+1)=nL w i:=by
 unfold nL;rw[lJ h,if_pos hx];simp
theorem Ca {w:List Int}{i:Nat}(hx:w.getD i default≠63):eY w (i+1)=eY w i:=if_neg hx
theorem pY {w:List Int}{i:Nat}(hx:w.getD i default=63)(h:nL w i=0∨nL w i=((gO w).length:Nat)∨(0<(eY w i).length∧fj (eY w i)=nL w i)):eY w (i+1)=eY w i:=by
 rw[eY,if_pos hx,if_pos h]
theorem yn {w:List Int}{i:Nat}(hx:w.getD i default=63)(h:¬(nL w i=0∨nL w i=((gO w).length:Nat)∨(0<(eY w i).length∧fj (eY w i)=nL w i))):eY w (i+1)=eY w i++[nL w i]:=by
 rw[eY,if_pos hx,if_neg h]
theorem Cb (w:List Int):∀i,(eY w i).length≤i
 | 0=>Z1 _
 | i + 1 => by
   have:=Cb w i
   rw[eY]
   split
   · split
     · omega
     · rw[aab];show _+1≤_;omega
   · omega
theorem Er {l:List Int}:l.getD ((l.length:Int)-1).toNat default=fj l:=by
 unfold fj;rw[show((l.length:Int)-1).toNat=l.length-1 by omega]
end Go.Wf
namespace Go.Proofs.YtlapahnodhmcpaaGreat
open Go.Am Go.Wb Go.Wc Go.Wf Go.We
theorem Wh:G7 Tryz.prog 117 Tryz.f117.ntmps 2 3 (Tryz.f117.body.getD .skip):=⟨Tryz.f117,Tryz.func117,rfl,rfl,rfl,acf⟩
theorem Es {w:List Int}(hw:w.length≤1048576):aq Tryz.prog 117 [ints w] (.p (.tup [ints (gO w),ints (J3 w)])):=by
 refine ph Wh (ZZ J) fun w0 M0 aa=>?_
 refine c6 [1008,1004,9] [0,4,5,6] [4,5] ?_
 refine lp (fun zm zs=>∃i:Nat,zm=w.length-i∧(i≤w.length)∧zs=⟨71,[(0,vvz (ints w)),(4,.own 4),(5,.own 5),(6,vvw (int i))],[(4,.arr 3 ((gO (w.take i)).map int)),(5,.arr 3 [])]⟩) ?_ ?_
 exact⟨_,0,rfl,Z5 _,rfl⟩
 rintro zm zs ⟨i,rfl,aZ,rfl⟩
 have hl:=tq (w.take i)
 have hl2:(w.take i).length=i:=by rw[aaa];omega
 refine wS [5,3003] [0,4,5,6,13] [4,5] ?_ ?_<;>intro h1
 refine wS [9,3004] [0,4,5,6,20] [4,5] ?_ ?_<;>intro h2
 refine wA [5,1,1000,6,9002] [0,4,5,6] [4,5] ?_;rotate_left
 refine wA [6,9002] [0,4,5,6] [4,5] ?_;rotate_left
 refine wA [18] [0,4,5,7,8] [4,5] ?_
 rw[aaj (show w.length≤i by omega)]
 refine lp (fun zm zs=>∃i:Nat,zm=w.length-i∧(i≤w.length)∧zs=⟨71,[(0,vvz (ints w)),(4,.own 4),(5,.own 5),(7,vvw (int (nL w i))),(8,vvw (int i))],[(4,.arr 3 ((gO w).map int)),(5,.arr 3 ((eY w i).map int))]⟩) ?_ ?_
 exact⟨_,0,rfl,Z5 _,rfl⟩
 rintro zm zs ⟨i,rfl,fU,rfl⟩
 have hc:=Cb w i
 have hl:=tq (w.take i)
 have hl2:(w.take i).length=i:=by rw[aaa];omega
 have hn:0≤nL w i∧nL w i≤i:=⟨Int.natCast_nonneg _,by unfold nL;omega⟩
 have hg:=Er (l:=eY w i)
 refine wS [5,3003] [0,4,5,7,8,31] [4,5] ?_ ?_<;>intro h3
 refine wS [10,3004] [0,4,5,7,8,38] [4,5] ?_ ?_<;>intro h4
 refine wA [4,9,9002] [0,4,5,7,8] [4,5] ?_;rotate_left
 refine wS [4008] [0,4,5,7,8,43] [4,5] ?_ ?_<;>intro h5'
 refine wS [12,3003] [0,4,5,7,8,9,51] [4,5] ?_ ?_<;>intro h6
 refine wA [28,9002] [0,4,5,7,8] [4,5] ?_;rotate_left
 refine wA [15,9002] [0,4,5,7,8] [4,5] ?_;rotate_left
 refine wS [2,9,3003] [0,4,5,7,8,9,51] [4,5] ?_ ?_<;>intro h7
 refine wS [4004] [0,4,5,7,8,53] [4,5] ?_ ?_<;>intro h8'
 refine wA [24,9002] [0,4,5,7,8] [4,5] ?_;rotate_left
 refine wS [2,0,0,0,3012] [0,4,5,7,8,64] [4,5] ?_ ?_<;>intro h9
 refine wA [4,1000,6,9002] [0,4,5,7,8] [4,5] ?_;rotate_left
 refine wA [6,9002] [0,4,5,7,8] [4,5] ?_;rotate_left
 refine wS [3009] [0,4,5,7,8,64] [4,5] ?_ ?_<;>intro h10
 refine wA [4,1000,6,9002] [0,4,5,7,8] [4,5] ?_;rotate_left
 refine wA [6,9002] [0,4,5,7,8] [4,5] ?_;rotate_left
 refine wZ [15] ?_
 refine cK J J ?_
 rw[show i=w.length by omega];exact⟨rfl,rfl⟩
 all_goals first
  | (
    exact⟨_,⟨i+1,rfl,ace,by rw[lJ ace];first|(rw[if_pos ace,aav];rfl)|(rw[if_neg ace,Z8];rfl)⟩,ace⟩;done)
  | (
    refine⟨_,⟨i+1,rfl,ace,?_⟩,ace⟩
    first
      | (rw[B9 ace ace,Ca ace];rfl)
      | (rw[wv ace ace,pY ace ace];rfl)
      | (rw[wv ace ace,yn ace ace,Z8];rfl);done)
abbrev X0:=dU 4 Tryz.func14
theorem pZ {n most:Int}(hn:Xk n)(hm:0<most):aq Tryz.prog 14 [int n,int most] (.p (int (pP n most))):=by
 obtain⟨hn1,hn2⟩:=hn
 refine cF X0 fun w0 M0 aa=>?_
 refine rM [3012] [0,1,6] [] ?_ ?_<;>intro h1
 refine wZ [3,5000] ?_
 refine oP J (KY J J ace) ?_
 refine wZ [7,8004] ?_;rotate_left
 refine wZ [7,8004] ?_;rotate_left
 all_goals
  unfold pP;first|rw[if_pos ach]|rw[if_neg ach]
abbrev X1:=dU 6 Tryz.func39
theorem iD {l:List Int}{i most:Int}(hl:iM l)(hm:0<most):aq Tryz.prog 39 [ints l,int i,int most] (.p (int (mr l i most))):=by
 have hl':=hl.get i.toNat
 refine cF X1 fun w0 M0 aa=>?_
 refine rM [4011] [0,1,2,9] [] ?_ ?_<;>intro h1'
 refine wZ [8015] ?_;rotate_left
 refine wS [2,3004] [0,1,2,14] [] ?_ ?_<;>intro h2
 refine wZ [8008] ?_;rotate_left
 refine wA [7,2] [18,19] [] ?_
 refine oC J J J J (pZ ach ace) ?_
 refine wZ [8004] ?_;rotate_left
 all_goals
  unfold mr;first|(rw[if_pos ace])|(rw[if_neg ace])
end Go.Proofs.YtlapahnodhmcpaaGreat
namespace Go.Wf
open Go.Am Go.Wb Go.Wc
def aw (l:List Int)(i:Nat):Int:=if l.length=0 then 0 else pP (l.getD ((i:Int) % (l.length:Int)).toNat default) 1048576+19*((i:Int) / (l.length:Int))
theorem Cc (l:List Int)(i:Nat):0≤aw l i∧aw l i≤1048576+19*i:=by
 unfold aw
 split
 ·omega
 ·have hq1:0≤(i:Int) / (l.length:Int):=Int.ediv_nonneg ace ace
  have hq2:(i:Int) / (l.length:Int)≤i:=Int.ediv_le_self _ ace
  have:=um (n:=l.getD ((i:Int) % (l.length:Int)).toNat default) (most:=1048576) acg
  omega
def Wi (A:Nat)(n:Int)(i:Nat):Int:=(n / 7+n / 11*(i:Int)) % (A:Int)
def fG (A:Nat)(n most:Int):List Int:=(List.range (n % (most+1)).toNat).map (Wi A n)
def rp (A:Nat)(l:List Int):List Int:=(l.take 12).map fun x=>pP x A
theorem J4 {l:List Int}{i:Nat}(h:i≤l.length)(h2:i≤12)(h3:¬(i<l.length∧i<12)):l.take 12=l.take i:=by
 rcases aaq i 12 with h4|h4
 ·rw[aaj ace,aaj ace]
 ·rw[show i=12 by omega]
end Go.Wf
namespace Go.Proofs.YtlapahnodhmcpaaGreat
open Go.Am Go.Wb Go.Wc Go.Wf Go.We
abbrev X2:=dU 4 Tryz.func62
theorem eZ {l:List Int}{i:Nat}(h64:iM l)(hl:l.length≤9223372036854775807)(hi:i≤1000):aq Tryz.prog 62 [ints l,int i] (.p (int (aw l i))):=by
 refine cF X2 fun w0 M0 aa=>?_
 refine rM [9,3003] [0,1,7] [] ?_ ?_<;>intro h1
 refine wZ [8008] ?_;rotate_left
 have hlen:0<(l.length:Int):=ace
 have hr1:=Int.emod_nonneg (i:Int) (show(l.length:Int)≠0 by omega)
 have hr2:=ab6 (i:Int) hlen
 have hq1:0≤(i:Int) / (l.length:Int):=Int.ediv_nonneg ace ace
 have hq2:(i:Int) / (l.length:Int)≤i:=Int.ediv_le_self _ ace
 have ha:=um (n:=l.getD ((i:Int) % (l.length:Int)).toNat default) (most:=1048576) acg
 refine wA [2004,6003,6000,6000,1] [0,1,14] [] ?_
 refine oE J J J J J J (pZ (h64.get _) acg) ?_
 refine wZ [6002,6000,6000,6000,8004] ?_;rotate_left
 all_goals
  unfold aw;first|(rw[if_pos ace];done)|(rw[if_neg ace];done)
abbrev X3:=dU 6 Tryz.func70
theorem cW {a:List cQ}{n most:Int}(ha:0<a.length∧a.length≤1000)(hn:0≤n∧n≤1000000000)(hm:0≤most∧most≤9):aq Tryz.prog 70 [ah a,int n,int most] (.fresh 3 ((fG a.length n most).map int)):=by
 refine cF X3 fun w0 M0 aa=>?_
 refine c6 [1007,6,0,10] [0,1,7,8,9] [7] ?_
 have hm1:=Int.emod_nonneg n (show most+1≠0 by omega)
 have hm2:=ab6 n (show 0<most+1 by omega)
 have h7:0≤n / 7∧n / 7≤n:=⟨ace,ace⟩
 have h11:0≤n / 11∧n / 11≤n:=⟨ace,ace⟩
 refine lp (fun zm zs=>∃i:Nat,zm=(n % (most+1)).toNat-i∧((i:Int)≤n % (most+1))∧zs=⟨33,[(0,vvz (ah a)),(1,vvz (int n)),(7,.own 7),(8,vvw (int (n % (most+1)))),(9,vvw (int i))],[(7,.arr 3 (((List.range i).map (Wi a.length n)).map int))]⟩) ?_ ?_
 exact⟨_,0,rfl,ace,rfl⟩
 rintro zm zs ⟨i,rfl,aZ,rfl⟩
 have hmul:0≤n / 11*(i:Int)∧n / 11*(i:Int)≤1000000000*10:=⟨Int.mul_nonneg h11.1 ace,Int.mul_le_mul ace ace ace ace⟩
 have hlr:(List.range i).length=i:=aai
 refine wS [3008] [0,1,7,8,9,16] [7] ?_ ?_<;>intro h1
 refine wA [8,1,1,0,1,0,0,1000,6,9002] [0,1,7,8,9] [7] ?_
 exact⟨_,⟨i+1,rfl,ace,by rw[aaP,Z8,Z8];rfl⟩,ace⟩
 refine wZ [8013] ?_
 exact congrArg (RV.fresh _) (by unfold fG;rw[show(n % (most+1)).toNat=i by omega])
theorem X4:tP Tryz.prog 65 Tryz.f65.ntmps 2 87 3 (Tryz.f65.body.getD .skip):=⟨Tryz.f65,Tryz.func65,rfl,rfl,rfl,acf,iC,bX⟩
theorem GB {a:List cQ}(ha:a.length≤1000):aq Tryz.prog 65 [ah a] (.p (rx (.mk 2 ((List.range a.length).map fun k:Nat=>(k:Int)) []))):=by
 refine ez X4 (ZZ J) fun w0 M0 aa=>?_
 refine c6 [1007,9] [0,2,3,4] [2,3] ?_
 refine lp (fun zm zs=>∃i:Nat,zm=a.length-i∧(i≤a.length)∧zs=⟨17,[(0,vvz (ah a)),(2,.pbox 2 0),(3,.own 3),(4,vvw (int i))],[(2,.box 87 [vvw (.sc (.int .i64 0)),vvv,vvv]),(3,.arr 3 (((List.range i).map fun k:Nat=>(k:Int)).map int))]⟩) ?_ ?_
 exact⟨_,0,rfl,Z5 _,rfl⟩
 rintro zm zs ⟨i,rfl,aZ,rfl⟩
 have hlr:(List.range i).length=i:=aai
 refine wS [5,3003] [0,2,3,4,8] [2,3] ?_ ?_<;>intro h1
 refine wA [8,1000,6,9002] [0,2,3,4] [2,3] ?_
 exact⟨_,⟨i+1,rfl,ace,by rw[aaP,Z8,Z8];rfl⟩,ace⟩
 refine wA [7] [2,3] [2,3] ?_
 refine aS 17 [(2,_),(3,_)] [(2,_)] aa J ⟨.inl J,.inr ⟨_,_,rfl,rfl,rfl⟩,trivial⟩ ⟨rfl,trivial⟩ ?_
 refine gS [2] [2,15] [2] ?_
 refine oN J J J J J (mf ((List.range i).map fun k:Nat=>(k:Int))) ?_
 refine wZ [4] ?_
 refine aA J ?_
 rw[show i=a.length by omega];rfl
abbrev X5:=dU 4 Tryz.func30
theorem r4 {a:List cQ}{l:List Int}(h64:iM l)(hl:l.length≤9223372036854775807)(ha:0<a.length∧a.length≤1000):aq Tryz.prog 30 [ah a,ints l] (.fresh 3 ((rp a.length l).map int)):=by
 refine cF X5 fun w0 M0 aa=>?_
 refine c6 [1007,9] [0,1,5,6] [5] ?_
 refine lp (fun zm zs=>∃i:Nat,zm=12-i∧(i≤l.length)∧(i≤12)∧zs=⟨28,[(0,vvz (ah a)),(1,vvz (ints l)),(5,.own 5),(6,vvw (int i))],[(5,.arr 3 (((l.take i).map fun x=>pP x a.length).map int))]⟩) ?_ ?_
 exact⟨_,0,rfl,Z5 _,Z5 _,rfl⟩
 rintro zm zs ⟨i,rfl,aZ,au,rfl⟩
 have hlr:(l.take i).length=i:=by rw[aaa];omega
 refine wS [5,4002] [0,1,5,6,11] [5] ?_ ?_<;>intro h1'
 refine wS [3005] [0,1,5,6,14] [5] ?_ ?_<;>intro h2
 refine wZ [9,2,5000] ?_
 refine oC J J J J (pZ (h64.get _) ace) ?_
 refine wA [0,1000,6,9002] [0,1,5,6] [5] ?_
 exact⟨_,⟨i+1,rfl,ace,ace,by rw[take_succ ace,Z8,Z8];rfl⟩,ace⟩
 refine wZ [8013] ?_;rotate_left
 refine wZ [8018] ?_;rotate_left
 all_goals
  unfold rp;rw[show l.take 12=l.take i from J4 ace ace ace]
end Go.Proofs.YtlapahnodhmcpaaGreat
