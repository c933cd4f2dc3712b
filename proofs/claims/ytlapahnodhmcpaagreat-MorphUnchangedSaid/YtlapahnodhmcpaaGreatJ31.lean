/-
  Part of the proof.
-/
import Derived.Test.YtlapahnodhmcpaaGreatJ0
import Derived.Test.YtlapahnodhmcpaaGreatJ16
import Derived.Test.YtlapahnodhmcpaaGreatJ30
import Derived.Test.YtlapahnodhmcpaaGreatJ24
import Derived.Test.YtlapahnodhmcpaaGreatJ20
import Derived.Test.YtlapahnodhmcpaaGreatJ28
set_option linter.unusedVariables false
set_option linter.unusedSectionVars false
set_option linter.unusedSimpArgs false
set_option maxRecDepth 100000
set_option maxHeartbeats 40000000
namespace Go.Am
theorem gF {P:Program}{w0:Fr}{M0:Nat→Prop}{o:Oper}{ρ:Operand→Option SV}{α:Type} [Inhabited α]{f:α→AV}{l:List α}{ob:List (Nat×Ob)}{x y:Operand}{T e:TypeId}{c:fW}{k:Nat}{q:IntKind}{n:Int}{i:Nat}{z:α}(hz:l.getD i default=z)(ho:o.op=.indexAddr T x y)(hT:P.underlying T=some (.slice e))(hk:bY P e=some k)
 (hx:viewAt ρ ob x=some (c,.sl (l.map f)))(hy:aZ ρ y=some (.int q n)) [hi:Ix n i](h:0≤n∧n<l.length)(hc:∀z,(AV.cells (f z)).length=k) :
 Pure P w0 M0 o ρ ob (.v c (.pc (AV.cells (f z)) 0)):=by subst hz;exact dS ho hT hk hx hy h hc
end Go.Am
namespace Go.Proofs.YtlapahnodhmcpaaGreat
open Go.Am Go.Wb Go.Wc Go.Wf Go.We
abbrev WS:=dF 2 Tryz.func140
theorem Hl {r:aF}(h:QY r):ak Tryz.prog 140 ([bn r]++[]) (.p (bool (!bI r))):=by
 refine cF WS fun w0 M0 aa=>?_
 refine c4 [2,6] [3] [] ?_;refine oC J J J J (EN (by have:=h.pairs;omega) (fun p hp=>aaO (h.dst p hp) acM) (by have:=h.left;omega) (by have:=h.right;omega)) ?_;refine wZ [8005] ?_;rfl
abbrev WT:=dF 4 Tryz.func144
theorem Hm {l:List aF}{p:aF→Bool}{g:FuncId}{caps:List AV}(hl:l.length≤1099511627776)(hf:∀x∈l,ak Tryz.prog g ([bn x]++caps) (.p (bool (p x)))):ak Tryz.prog 144 [.sl (l.map bn),.clo g caps] (.p (bool (l.any p))):=by
 refine cF WT fun w0 M0 aa=>?_
 refine c4 [9] [5,6] [] ?_;refine oC J J J J (yM hl hf) ?_;refine wZ [8005] ?_;rw[wE]
theorem yU {l:List aF}(hl:l.length≤1099511627776)(h:∀r∈l,QY r):ak Tryz.prog 144 [.sl (l.map bn),.clo 140 []] (.p (bool (!l.all bI))):=by have:=Hm (p:=fun x=>!bI x) hl (fun x hx=>Hl (h x hx));rwa [←List.not_all_eq_any_not] at this
theorem YO:BR Tryz.prog 95 Tryz.f95.ntmps 6 160 12 7 (Tryz.f95.body.getD .skip):=⟨Tryz.f95,Tryz.func95,rfl,rfl,rfl,acL,Vw,Sf⟩
theorem Fb {g:aC}{cl:List UInt8}(hl:g.classes.length≤1099511627776):aU Tryz.prog 80 [cV g,ah cl] (.p (.tup [bL (bh g cl),bool (fR g cl).isSome])):=yL hl
theorem Bs {g:aC}{cl cn:List UInt8}(hg:pF g):aU Tryz.prog 95 [cV g,ah cl,ah cn] (.p (.tup [if gY g cl cn=0 then YN g cl cn else Sy,int (gY g cl cn)])):=by
 refine dn YO (aah J) fun w0 M0 aa=>?_
 refine c4 [2,0,8] [3,5,6,16,17] [6] ?_;refine oN J J J J J (Fb (by have:=hg.nclasses;omega)) ?_;refine wA [9] [3,5,6,8,9] [6,8] ?_;refine aI 105 [(3,_),(5,_),(6,_),(8,_),(9,_)] [(6,_)] aa J ⟨.inl J,.inl J,.inl J,.inr ⟨_,_,rfl,rfl,rfl⟩,.inl J,trivial⟩ ⟨rfl,trivial⟩ ?_;refine xP [3,5000] ?_;refine oC J J J J (Hi (l:=(bh g cl).cells) (p:=fun x=>decide (x.name=cn)) (by have:=(lq hg cl).cells;omega) (fun x hx=>Hj)) ?_;refine wS [4009] [3,6,8,10,27] [6] ?_ ?_<;>intro h1';refine wA [8] [6] [6] ?_;refine oP J (au (aT J pz nY J J J) J) ?_;refine wZ [6] ?_;refine bz J J ?_;rotate_left;refine wS [3005] [3,6,8,10,30] [6] ?_ ?_<;>intro h2;refine wA [3] [6] [6] ?_;refine oP J (au (aT J pz nY J J J) J) ?_;refine wZ [6] ?_;refine bz J J ?_;rotate_left;have hX:=T5 (g:=g) (cl:=cl) (cn:=cn) (by simp_all;first|done|omega);have hlt:=Sl (p:=fun x:gU=>decide (x.name=cn)) (l:=(bh g cl).cells);refine wA [4] [3,6,8,10] [6] ?_;refine dC [7,8] [[(6,.box 160 [vvw (.sc (.string ⟨#[]⟩)),vvw (.sc (.int .i64 0)),vvv,vvv,vvw (.sc (.int .i64 0)),vvv,vvw (.sc (.string ⟨#[]⟩)),vvv,vvv,vvv,vvv,vvv])],[(6,.box 160 [vvw (.sc (.string ⟨#[]⟩)),vvw (.sc (.int .i64 0)),vvv,vvv,vvw (.sc (.int .i64 0)),vvv,vvw (.sc (.string ⟨#[]⟩)),vvv,vvv,vvv,vvv,vvv]),(11,.box 160 [vvw (.sc (.string ⟨#[]⟩)),vvw (.sc (.int .i64 0)),vvv,vvv,vvw (.sc (.int .i64 0)),vvv,vvw (.sc (.string ⟨#[]⟩)),vvv,vvv,vvv,vvv,vvv])],[(6,.box 160 [vvw (.sc (.string ⟨#[]⟩)),vvw (.sc (.int .i64 0)),vvv,vvv,vvw (.sc (.int .i64 0)),vvv,vvw (.sc (.string ⟨#[]⟩)),vvv,vvv,vvv,vvv,vvv]),(11,.box 160 [vvw (ah (bh g cl).name),vvw (int (bh g cl).fits.kind),vvw (ints (bh g cl).fits.syms),vvw (.sl (Rx.gA (bh g cl).fits.kids)),vvw (int (bh g cl).strip),vvw (.sl ((bh g cl).cells.map dD)),vvw (ah (bP g cl cn).name),vvw (ints (bP g cl cn).pre),vvw (ints (bP g cl cn).suf),vvw (strs (bP g cl cn).change),vvw (.sl []),vvw (.sl [])])]] 9 [] [(32,vvw (bL (bh g cl))),(33,vvw (.pc (o6 (bh g cl)) 5)),(34,vvw (.sl ((bh g cl).cells.map dD))),(35,vvw (int (eB (fun x:gU=>decide (x.name=cn)) (bh g cl).cells))),(36,vvw (.pc (EO (bP g cl cn)) 0)),(37,vvw (dD (bP g cl cn))),(38,vvw (.agg (CL (bh g cl) (bP g cl cn) [] []))),(11,.pbox 11 0),(3,vvw (kn g)),(6,.pbox 6 0),(8,vvw (N9 (bh g cl))),(10,vvw (int (eB (fun x:gU=>decide (x.name=cn)) (bh g cl).cells)))] (ai (fun _=>(au (aG J TU Cz J (aah J)) J)) (ai bS (ai bS (ai bS (ai (fun _=>(gF (f:=dD) (l:=(bh g cl).cells) (z:=bP g cl cn) hX.1 J Tryz.underlying95 Iw J J acK (fun _=>rfl))) (ai (fun _=>(au (aG J Sd Iw J (aah J)) J)) (ai (fun _=>(au (aT J pz nY J J J) J)) trivial))))))) (ai (fun X e7 dH c6=>gh (t:=11) J J J J e7 nY J J (fun t' z h hne=>eT (by rfl) (dH t' z h) hne) J aa) (ai (fun X e7 dH c6=>b8 J (b7 (u:=11) (v:=38) (id:=11) J J e7 Sf ((c6 11 acM).trans J) J ((c6 38 acM).trans J) J acM J J (fun t' z h=>cD (by rfl) (dH t' z h)) J aa)) (trivial))) ?_;refine bM (n:=0) acL ?_;refine bf acL ?_;refine iS [13] [3,6,8,11,40,43] [6,11] ?_;refine oN J J J J J (yN (l:=(bP g cl cn).change) (by have:=hg.nrules;omega) (by have:=(jx hg cl cn).change;omega)) ?_;refine wA [13] [6,8,11,12,49,51] [6,11] ?_;refine oN J J J J J (yN (l:=g.order) (by have:=hg.nrules;omega) (by have:=hg.order;omega)) ?_;refine wS [4014] [6,8,11,13,58] [6,11] ?_ ?_<;>intro h3';refine wA [8] [6] [6] ?_;refine oP J (au (aT J pz nY J J J) J) ?_;refine wZ [6] ?_;refine bz J J ?_;rotate_left;refine wS [3005] [6,8,11,61] [6,11] ?_ ?_<;>intro h4;refine wA [3] [6] [6] ?_;refine oP J (au (aT J pz nY J J J) J) ?_;refine wZ [6] ?_;refine bz J J ?_;rotate_left;refine wS [4015] [6,8,11,14,66] [6,11] ?_ ?_<;>intro h5';refine wA [41] [6] [6] ?_;refine oP J (au (aT J pz nY J J J) J) ?_;refine wZ [6] ?_;refine bz J J ?_;rotate_left;refine wS [4005] [6,8,11,14,71] [6,11] ?_ ?_<;>intro h6';refine wA [36] [6] [6] ?_;refine oP J (au (aT J pz nY J J J) J) ?_;refine wZ [6] ?_;refine bz J J ?_;rotate_left;refine wA [3] [6,8,11,14,71,74] [6,11] ?_;refine oC J J J J (yP (w:=(bP g cl cn).pre) (by have:=(jx hg cl cn).pre;omega)) ?_;refine wS [4003] [6,8,11,14,78] [6,11] ?_ ?_<;>intro h7';refine wA [29] [6] [6] ?_;refine oP J (au (aT J pz nY J J J) J) ?_;refine wZ [6] ?_;refine bz J J ?_;rotate_left;refine wA [3] [6,8,11,14,78,81] [6,11] ?_;refine oC J J J J (yP (w:=(bP g cl cn).suf) (by have:=(jx hg cl cn).suf;omega)) ?_;refine wS [4003] [6,8,11,14,85] [6,11] ?_ ?_<;>intro h8';refine wA [22] [6] [6] ?_;refine oP J (au (aT J pz nY J J J) J) ?_;refine wZ [6] ?_;refine bz J J ?_;rotate_left;refine wA [2] [6,11,14,85,87] [6,11] ?_;refine oC J J J J (mB _ (bh g cl).fits (aak _) (by have:=(lq hg cl).fits;omega)) ?_;refine wS [4003] [6,11,14,91] [6,11] ?_ ?_<;>intro h9';refine wA [16] [6] [6] ?_;refine oP J (au (aT J pz nY J J J) J) ?_;refine wZ [6] ?_;refine bz J J ?_;rotate_left;refine wA [3] [6,11,14,91,93,94] [6,11] ?_;refine oC J J J J (yU (l:=bq g (bP g cl cn).change) (by have:=kQ (g:=g) (l:=(bP g cl cn).change);have:=(jx hg cl cn).change;omega) (fun x hx=>hg.rules x (gV hx))) ?_;refine wS [4002] [6,11,14,97] [6,11] ?_ ?_<;>intro h10';refine wA [10] [6] [6] ?_;refine oP J (au (aT J pz nY J J J) J) ?_;refine wZ [6] ?_;refine bz J J ?_;rotate_left;refine wA [3] [6,11,97,99,100] [6,11] ?_;refine oC J J J J (yU (l:=bq g g.order) (by have:=kQ (g:=g) (l:=g.order);have:=hg.order;omega) (fun x hx=>hg.rules x (gV hx))) ?_;refine wS [3003] [6,11,102] [6,11] ?_ ?_<;>intro h11;refine wA [3] [6] [6] ?_;refine oP J (au (aT J pz nY J J J) J) ?_;refine wZ [6] ?_;refine bz J J ?_;rotate_left;refine wZ [11] ?_;refine bz J J ?_;rotate_left
 all_goals
  first
   | (rw[vY (SA acN)];exact⟨rfl,rfl⟩)
   | (rw[vY (WR acK)];exact⟨rfl,rfl⟩)
   | (rw[vY (SB acN)];exact⟨rfl,rfl⟩)
   | (rw[vY (SC acN)];exact⟨rfl,rfl⟩)
   | (rw[IW (Br acN hX.2 acN acN) (T7 acN)];exact⟨rfl,rfl⟩)
   | (rw[IW (Br acN hX.2 acN acN) (T8 acN)];exact⟨rfl,rfl⟩)
   | (rw[IW (Br acN hX.2 acN acN) (by unfold j7;simp_all;first|done|omega)];exact⟨rfl,rfl⟩)
   | (rw[Sz (Br acN hX.2 acN acN) (by unfold j7;simp_all;first|done|omega)];exact⟨rfl,rfl⟩)
end Go.Proofs.YtlapahnodhmcpaaGreat
namespace Go.Wf
open Go.Am Go.Wb Go.Wc
def okB (g:aC)(cl cn:List UInt8):Bool:=decide (0≤(bh g cl).strip)&&decide ((bh g cl).strip≤24)&&decide ((bP g cl cn).pre.length≤24)&&decide ((bP g cl cn).suf.length≤24)&&gE (bP g cl cn).pre&&gE (bP g cl cn).suf&&aR (bh g cl).fits
theorem T9 (g:aC)(cl cn:List UInt8):j7 g cl cn=(okB g cl cn&&(bq g (bP g cl cn).change).all bI&&(bq g g.order).all bI):=by unfold j7 okB u2;generalize decide (0≤(bh g cl).strip)=a1;generalize decide ((bh g cl).strip≤24)=a2;generalize decide ((bP g cl cn).pre.length≤24)=a3;generalize decide ((bP g cl cn).suf.length≤24)=a4;generalize gE (bP g cl cn).pre=a5;generalize gE (bP g cl cn).suf=a6;generalize aR (bh g cl).fits=a7;cases a1<;>cases a2<;>cases a3<;>cases a4<;>cases a5<;>cases a6<;>cases a7<;>rfl
variable{i:Nat}
theorem all_succ {α:Type} [Inhabited α]{p:α→Bool}{l:List α}(h:i<l.length):(l.take (i+1)).all p=((l.take i).all p&&p (l.getD i default)):=by rw[take_succ h,List.all_append];simp
def Oq (g:aC)(cl cn:List UInt8)(i:Nat):Bool:=okB g cl cn&&((bq g (bP g cl cn).change).take i).all bI
def Pt (g:aC)(cl cn:List UInt8)(i:Nat):Bool:=Oq g cl cn (bq g (bP g cl cn).change).length&&((bq g g.order).take i).all bI
variable{g:aC}{cl cn:List UInt8}
theorem WU :Oq g cl cn 0=okB g cl cn:=by unfold Oq;rw[acJ,List.all_nil,Bool.and_true]
theorem WV :Pt g cl cn 0=Oq g cl cn (bq g (bP g cl cn).change).length:=by unfold Pt;rw[acJ,List.all_nil,Bool.and_true]
theorem Ot (h:i<(bq g (bP g cl cn).change).length):Oq g cl cn (i+1)=(Oq g cl cn i&&bI ((bq g (bP g cl cn).change).getD i default)):=by unfold Oq;rw[all_succ h,Bool.and_assoc]
theorem Ou (h:i<(bq g g.order).length):Pt g cl cn (i+1)=(Pt g cl cn i&&bI ((bq g g.order).getD i default)):=by unfold Pt;rw[all_succ h,Bool.and_assoc]
theorem SD (i:Nat)(hi:(bq g g.order).length≤i){z:Bool}(h:Pt g cl cn i=z):j7 g cl cn=z:=by rw[T9,←h];unfold Pt Oq;rw[aaB hi,abj]
theorem WW (h:(ng (bh g cl) cn).isSome=false):iP g cl cn=false:=by unfold iP;rw[h,abG];rfl
end Go.Wf
namespace Go.Proofs.YtlapahnodhmcpaaGreat
open Go.Am Go.Wb Go.Wc Go.Wf Go.We
theorem WX:RE Tryz.prog 112 Tryz.f112.ntmps 6 7 8 (Tryz.f112.body.getD .skip):=⟨Tryz.f112,Tryz.func112,rfl,rfl,rfl,acL⟩
variable{g:aC}{cl:List UInt8}
theorem pa (hl:g.classes.length≤1099511627776):aU Tryz.prog 78 [cV g,ah cl] (.p (.tup [bL (bh g cl),bool (fR g cl).isSome])):=E7 hl
theorem vZ {cn:List UInt8}(hl:(bh g cl).cells.length≤1099511627776):aU Tryz.prog 113 [bL (bh g cl),ah cn] (.p (.tup [dD (bP g cl cn),bool (ng (bh g cl) cn).isSome])):=Hh hl
theorem tQ {cn:List UInt8}(hg:pF g):aU Tryz.prog 112 [cV g,ah cl,ah cn] (.p (.tup [.sl ((if gY g cl cn=0 then bq g (bP g cl cn).change else[]).map bn),.sl ((if gY g cl cn=0 then bq g g.order else[]).map bn),int (gY g cl cn)])):=by
 have hch:(bq g (bP g cl cn).change).length≤1000:=aaO kQ (jx hg cl cn).change;have hod:(bq g g.order).length≤1000:=aaO kQ hg.order;refine pV WX (aah J) fun w0 M0 aa=>?_
 refine c4 [2,9] [2,3,21,22] [] ?_;refine oN J J J J J (pa (by have:=hg.nclasses;omega)) ?_;refine wA [9] [2,3,9,10] [9] ?_;refine aI 127 [(2,_),(3,_),(9,_),(10,_)] [] aa J ⟨.inl J,.inl J,.inr ⟨_,_,rfl,rfl,rfl⟩,.inl J,trivial⟩ trivial ?_;refine gz [3] [3,9,10,27,28] [] ?_;refine oN J J J J J (vZ (by have:=(lq hg cl).cells;omega)) ?_;refine wA [9] [3,9,10,11,12] [11] ?_;refine aI 127 [(3,_),(9,_),(10,_),(11,_),(12,_)] [] aa J ⟨.inl J,.inl J,.inl J,.inr ⟨_,_,rfl,rfl,rfl⟩,.inl J,trivial⟩ trivial ?_;refine gz [4] [3,9,10,11,12,33,35] [] ?_;refine oN J J J J J (vX (l:=(bP g cl cn).change) (by have:=hg.nrules;omega) (by have:=(jx hg cl cn).change;omega)) ?_;refine wA [12] [9,10,11,12,13,14,40,42] [] ?_;refine oN J J J J J (vX (l:=g.order) (by have:=hg.nrules;omega) (by have:=hg.order;omega)) ?_;refine wS [4013] [9,11,12,13,14,15,16,48] [] ?_ ?_<;>intro h1';refine wZ [23] ?_;refine gx J J J ?_;rotate_left;refine wS [4004] [9,11,13,14,15,16,52] [] ?_ ?_<;>intro h2';refine wZ [19] ?_;refine gx J J J ?_;rotate_left;refine wS [4004] [9,11,13,15,16,56] [] ?_ ?_<;>intro h3';refine wZ [15] ?_;refine gx J J J ?_;rotate_left;refine wS [3005] [9,11,13,15,59] [] ?_ ?_<;>intro h4;refine wZ [10] ?_;refine gx J J J ?_;rotate_left;refine wA [3] [9,11,13,15] [] ?_;refine ct (fun zs=>∃z:Bool,(z=(okB g cl cn))∧zs=⟨127,[(13,vvw (.sl ((bq g (bP g cl cn).change).map bn))),(15,vvw (.sl ((bq g g.order).map bn))),(17,vvw (bool z))],[]⟩) ?_ ?_;refine wS [4005] [9,11,13,15,63] [] ?_ ?_<;>intro h5';refine wS [4005] [9,11,13,15,68] [] ?_ ?_<;>intro h6';refine wS [2,4003] [9,11,13,15,74] [] ?_ ?_<;>intro h7';refine wS [2,4003] [9,11,13,15,80] [] ?_ ?_<;>intro h8';refine wA [2] [9,11,13,15,80,82] [] ?_;refine oC J J J J (ny (w:=(bP g cl cn).pre) (by have:=(jx hg cl cn).pre;omega)) ?_;refine wS [4002] [9,11,13,15,85] [] ?_ ?_<;>intro h9';refine wA [2] [9,13,15,85,87] [] ?_;refine oC J J J J (ny (w:=(bP g cl cn).suf) (by have:=(jx hg cl cn).suf;omega)) ?_;refine wS [4002] [9,13,15,90] [] ?_ ?_<;>intro h10';refine wA [2] [13,15,90,92] [] ?_;refine oC J J J J (lb _ (bh g cl).fits (aak _) (by have:=(lq hg cl).fits;omega)) ?_;refine wA [10003] [13,15,17] [] ?_;rotate_left;refine wA [10006] [13,15,17] [] ?_;rotate_left;refine wA [10011] [13,15,17] [] ?_;rotate_left;refine wA [10016] [13,15,17] [] ?_;rotate_left;refine wA [10022] [13,15,17] [] ?_;rotate_left;refine wA [10028] [13,15,17] [] ?_;rotate_left;refine wA [10033] [13,15,17] [] ?_;rotate_left;rintro zs ⟨z,vP,rfl⟩;refine wA [7] [13,15,17,18] [] ?_;subst vP;refine lp (fun zm zs=>∃i:Nat,zm=(bq g (bP g cl cn).change).length-i∧(i≤(bq g (bP g cl cn).change).length)∧zs=⟨127,[(13,vvw (.sl ((bq g (bP g cl cn).change).map bn))),(15,vvw (.sl ((bq g g.order).map bn))),(17,vvw (bool (Oq g cl cn i))),(18,vvw (int i))],[]⟩) ?_ ?_;exact⟨_,0,rfl,aan _,by rw[WU];rfl⟩;rintro zm zs ⟨i,rfl,aY,rfl⟩;refine wS [5,3003] [13,15,17,18,98] [] ?_ ?_<;>intro h11;refine wS [4008] [13,15,18,102] [] ?_ ?_<;>intro h12';refine wA [2,1] [13,15,18,102,106] [] ?_;refine oC J J J J (o5 (r:=(bq g (bP g cl cn).change).getD i default) (by have:=(hg.rules _ (gV (aM (by omega:i<(bq g (bP g cl cn).change).length)))).pairs;omega) (fun p hp=>aaO ((hg.rules _ (gV (aM (by omega:i<(bq g (bP g cl cn).change).length)))).dst p hp) acM) (by have:=(hg.rules _ (gV (aM (by omega:i<(bq g (bP g cl cn).change).length)))).left;omega) (by have:=(hg.rules _ (gV (aM (by omega:i<(bq g (bP g cl cn).change).length)))).right;omega)) ?_;refine wA [7,9002] [13,15,17,18] [] ?_;rotate_left;refine wA [12,9002] [13,15,17,18] [] ?_;rotate_left;refine wA [13] [13,15,17,19] [] ?_;obtain rfl:i=(bq g (bP g cl cn).change).length:=acK;refine lp (fun zm zs=>∃i:Nat,zm=(bq g g.order).length-i∧(i≤(bq g g.order).length)∧zs=⟨127,[(13,vvw (.sl ((bq g (bP g cl cn).change).map bn))),(15,vvw (.sl ((bq g g.order).map bn))),(17,vvw (bool (Pt g cl cn i))),(19,vvw (int i))],[]⟩) ?_ ?_;exact⟨_,0,rfl,aan _,by rw[WV];rfl⟩;rintro zm zs ⟨i,rfl,fu,rfl⟩;refine wS [5,3003] [13,15,17,19,112] [] ?_ ?_<;>intro h13;refine wS [4008] [13,15,19,116] [] ?_ ?_<;>intro h14';refine wA [2,1] [13,15,19,116,120] [] ?_;refine oC J J J J (o5 (r:=(bq g g.order).getD i default) (by have:=(hg.rules _ (gV (aM (by omega:i<(bq g g.order).length)))).pairs;omega) (fun p hp=>aaO ((hg.rules _ (gV (aM (by omega:i<(bq g g.order).length)))).dst p hp) acM) (by have:=(hg.rules _ (gV (aM (by omega:i<(bq g g.order).length)))).left;omega) (by have:=(hg.rules _ (gV (aM (by omega:i<(bq g g.order).length)))).right;omega)) ?_;refine wA [7,9002] [13,15,17,19] [] ?_;rotate_left;refine wA [12,9002] [13,15,17,19] [] ?_;rotate_left;refine wS [3013] [13,15,124] [] ?_ ?_<;>intro h15;refine wZ [10] ?_;refine gx J J J ?_;rotate_left;refine wZ [13] ?_;refine gx J J J ?_;rotate_left
 all_goals first
  | (
    first
      | (rw[vY (SA acN)];exact⟨rfl,rfl,rfl⟩)
      | (rw[vY (WW acN)];exact⟨rfl,rfl,rfl⟩)
      | (rw[vY (SB acN)];exact⟨rfl,rfl,rfl⟩)
      | (rw[vY (SC acN)];exact⟨rfl,rfl,rfl⟩)
      | (rw[IW (Br acN acN acN acN) (SD i acK acN)];exact⟨rfl,rfl,rfl⟩)
      | (rw[Sz (Br acN acN acN acN) (SD i acK acN)];exact⟨rfl,rfl,rfl⟩);done)
  | (
    exact⟨_,by unfold okB;simp_all;first|done|omega,rfl⟩;done)
  | (
    refine⟨_,⟨i+1,rfl,acK,?_⟩,acK⟩;rw[Ot acK];first|(rw[show Oq g cl cn i=true by assumption,abm];rfl)|(rw[show Oq g cl cn i=false by assumption,abD];rfl);done)
  | (
    refine⟨_,⟨i+1,rfl,acK,?_⟩,acK⟩;rw[Ou acK];first|(rw[show Pt g cl cn i=true by assumption,abm];rfl)|(rw[show Pt g cl cn i=false by assumption,abD];rfl);done)
end Go.Proofs.YtlapahnodhmcpaaGreat
namespace Go.Wf
open Go.Am Go.Wb Go.Wc
def fw (l:List Int):Int:=l.getD (l.length-1) default
def nL (w:List Int)(i:Nat):Int:=((gX (w.take i)).length:Nat)
def e8 (w:List Int):Nat→List Int
 | 0=>[]
 | i+1=>if w.getD i default=63 then(if nL w i=0∨nL w i=((gX w).length:Nat)∨(0<(e8 w i).length∧fw (e8 w i)=nL w i) then e8 w i else e8 w i++[nL w i]) else e8 w i
def KO (w:List Int):List Int:=e8 w w.length
variable{w:List Int}{i:Nat}
theorem CM (h:i<w.length)(hx:w.getD i default≠63):nL w (i+1)=nL w i+1:=by unfold nL;rw[lZ h,if_neg hx];simp
theorem w6 (h:i<w.length)(hx:w.getD i default=63):nL w (i+1)=nL w i:=by unfold nL;rw[lZ h,if_pos hx];simp
theorem CN (hx:w.getD i default≠63):e8 w (i+1)=e8 w i:=if_neg hx
theorem qv (hx:w.getD i default=63)(h:nL w i=0∨nL w i=((gX w).length:Nat)∨(0<(e8 w i).length∧fw (e8 w i)=nL w i)):e8 w (i+1)=e8 w i:=by rw[e8,if_pos hx,if_pos h]
theorem yV (hx:w.getD i default=63)(h:¬(nL w i=0∨nL w i=((gX w).length:Nat)∨(0<(e8 w i).length∧fw (e8 w i)=nL w i))):e8 w (i+1)=e8 w i++[nL w i]:=by rw[e8,if_pos hx,if_neg h]
theorem CO (w:List Int):∀i,(e8 w i).length≤i
 | 0=>aak _
 | i + 1 => by
   have:=CO w i;rw[e8];split
   · split
     · omega
     · rw[aar];show _+1≤_;omega
   · omega
theorem Fc {l:List Int}:l.getD ((l.length:Int)-1).toNat default=fw l:=by unfold fw;rw[show((l.length:Int)-1).toNat=l.length-1 by omega]
end Go.Wf
namespace Go.Proofs.YtlapahnodhmcpaaGreat
open Go.Am Go.Wb Go.Wc Go.Wf Go.We
theorem WY:F7 Tryz.prog 117 Tryz.f117.ntmps 2 3 (Tryz.f117.body.getD .skip):=⟨Tryz.f117,Tryz.func117,rfl,rfl,rfl,acL⟩
theorem Fe {w:List Int}(hw:w.length≤1048576):ak Tryz.prog 117 [ints w] (.p (.tup [ints (gX w),ints (KO w)])):=by
 refine pM WY (aah J) fun w0 M0 aa=>?_
 refine c4 [1008,1004,9] [0,4,5,6] [4,5] ?_;refine lr (fun zl zo zm zs=>∃i:Nat,zm=w.length-i∧(i≤w.length)∧zs=eJ 71 [(6,vvw (int i))] zl [(4,.arr 3 ((gX (w.take i)).map int)),(5,.arr 3 [])] zo) ?_ ?_;exact⟨_,0,rfl,aan _,rfl⟩;rintro zm zs ⟨i,rfl,aY,rfl⟩;have hl:=tN (w.take i);have hl2:(w.take i).length=i:=by rw[aau];omega
 refine wS [5,3003] [0,4,5,6,13] [4,5] ?_ ?_<;>intro h1;refine wS [9,3004] [0,4,5,6,20] [4,5] ?_ ?_<;>intro h2;refine wA [5,1,1000,6,9002] [0,4,5,6] [4,5] ?_;rotate_left;refine wA [6,9002] [0,4,5,6] [4,5] ?_;rotate_left;refine wA [18] [0,4,5,7,8] [4,5] ?_;rw[aaB (show w.length≤i by omega)];refine lr (fun zl zo zm zs=>∃i:Nat,zm=w.length-i∧(i≤w.length)∧zs=eJ 71 [(7,vvw (int (nL w i))),(8,vvw (int i))] zl [(4,.arr 3 ((gX w).map int)),(5,.arr 3 ((e8 w i).map int))] zo) ?_ ?_;exact⟨_,0,rfl,aan _,rfl⟩;rintro zm zs ⟨i,rfl,fu,rfl⟩;have hc:=CO w i;have hl:=tN (w.take i);have hl2:(w.take i).length=i:=by rw[aau];omega
 have hn:0≤nL w i∧nL w i≤i:=⟨Int.natCast_nonneg _,by unfold nL;omega⟩;have hg:=Fc (l:=e8 w i);refine wS [5,3003] [0,4,5,7,8,31] [4,5] ?_ ?_<;>intro h3;refine wS [10,3004] [0,4,5,7,8,38] [4,5] ?_ ?_<;>intro h4;refine wA [4,9,9002] [0,4,5,7,8] [4,5] ?_;rotate_left;refine wS [4008] [0,4,5,7,8,43] [4,5] ?_ ?_<;>intro h5';refine wS [12,3003] [0,4,5,7,8,9,51] [4,5] ?_ ?_<;>intro h6;refine wA [28,9002] [0,4,5,7,8] [4,5] ?_;rotate_left;refine wA [15,9002] [0,4,5,7,8] [4,5] ?_;rotate_left;refine wS [2,9,3003] [0,4,5,7,8,9,51] [4,5] ?_ ?_<;>intro h7;refine wS [4004] [0,4,5,7,8,53] [4,5] ?_ ?_<;>intro h8';refine wA [24,9002] [0,4,5,7,8] [4,5] ?_;rotate_left;refine wS [2,0,0,0,3012] [0,4,5,7,8,64] [4,5] ?_ ?_<;>intro h9;refine wA [4,1000,6,9002] [0,4,5,7,8] [4,5] ?_;rotate_left;refine wA [6,9002] [0,4,5,7,8] [4,5] ?_;rotate_left;refine wS [3009] [0,4,5,7,8,64] [4,5] ?_ ?_<;>intro h10;refine wA [4,1000,6,9002] [0,4,5,7,8] [4,5] ?_;rotate_left;refine wA [6,9002] [0,4,5,7,8] [4,5] ?_;rotate_left;refine wZ [15] ?_;refine cu J J ?_;rw[show i=w.length by omega];exact⟨rfl,rfl⟩
 all_goals first
  | (
    exact⟨_,⟨i+1,rfl,acK,by rw[lZ acK];first|(rw[if_pos acK,aaP];rfl)|(rw[if_neg acK,aas];rfl)⟩,acK⟩;done)
  | (
    refine⟨_,⟨i+1,rfl,acK,?_⟩,acK⟩
    first
      | (rw[CM acK acK,CN acK];rfl)
      | (rw[w6 acK acK,qv acK acK];rfl)
      | (rw[w6 acK acK,yV acK acK,aas];rfl);done)
abbrev YP:=dF 4 Tryz.func14
theorem nk {n most:Int}(hn:Xy n)(hm:0<most):ak Tryz.prog 14 [int n,int most] (.p (int (iO n most))):=by
 obtain⟨hn1,hn2⟩:=hn;refine cF YP fun w0 M0 aa=>?_
 refine pW [3012] [0,1,6] [] ?_ ?_<;>intro h1;refine wZ [3,5000] ?_;refine oP J (LI J J acK) ?_;refine wZ [7,8004] ?_;rotate_left;refine wZ [7,8004] ?_;rotate_left
 all_goals
  unfold iO;first|rw[if_pos acN]|rw[if_neg acN]
abbrev YQ:=dF 6 Tryz.func39
theorem eI {l:List Int}{i most:Int}(hl:fx l)(hm:0<most):ak Tryz.prog 39 [ints l,int i,int most] (.p (int (kN l i most))):=by
 have hl':=hl.get i.toNat;refine cF YQ fun w0 M0 aa=>?_
 refine pW [4011] [0,1,2,9] [] ?_ ?_<;>intro h1';refine wZ [8015] ?_;rotate_left;refine wS [2,3004] [0,1,2,14] [] ?_ ?_<;>intro h2;refine wZ [8008] ?_;rotate_left;refine wA [7,2] [18,19] [] ?_;refine oC J J J J (nk acN acK) ?_;refine wZ [8004] ?_;rotate_left
 all_goals
  unfold kN;first|(rw[if_pos acK])|(rw[if_neg acK])
end Go.Proofs.YtlapahnodhmcpaaGreat
namespace Go.Wf
open Go.Am Go.Wb Go.Wc
def aw (l:List Int)(i:Nat):Int:=if l.length=0 then 0 else iO (l.getD ((i:Int) % (l.length:Int)).toNat default) 1048576+19*((i:Int) / (l.length:Int))
theorem CP (l:List Int)(i:Nat):0≤aw l i∧aw l i≤1048576+19*i:=by
 unfold aw;split
 ·omega
 ·have hq1:0≤(i:Int) / (l.length:Int):=Int.ediv_nonneg acK acK;have hq2:(i:Int) / (l.length:Int)≤i:=Int.ediv_le_self _ acK;have:=uN (n:=l.getD ((i:Int) % (l.length:Int)).toNat default) (most:=1048576) acM;omega
def WZ (A:Nat)(n:Int)(i:Nat):Int:=(n / 7+n / 11*(i:Int)) % (A:Int)
def fT (A:Nat)(n most:Int):List Int:=(List.range (n % (most+1)).toNat).map (WZ A n)
def lC (A:Nat)(l:List Int):List Int:=(l.take 12).map fun x=>iO x A
theorem KP {l:List Int}{i:Nat}(h:i≤l.length)(h2:i≤12)(h3:¬(i<l.length∧i<12)):l.take 12=l.take i:=by
 rcases aaK i 12 with h4|h4
 ·rw[aaB acK,aaB acK]
 ·rw[show i=12 by omega]
end Go.Wf
namespace Go.Proofs.YtlapahnodhmcpaaGreat
open Go.Am Go.Wb Go.Wc Go.Wf Go.We
abbrev YR:=dF 4 Tryz.func62
theorem e9 {l:List Int}{i:Nat}(h64:fx l)(hl:l.length≤9223372036854775807)(hi:i≤1000):ak Tryz.prog 62 [ints l,int i] (.p (int (aw l i))):=by
 refine cF YR fun w0 M0 aa=>?_
 refine pW [9,3003] [0,1,7] [] ?_ ?_<;>intro h1;refine wZ [8008] ?_;rotate_left;have hlen:0<(l.length:Int):=acK;have hr1:=Int.emod_nonneg (i:Int) (show(l.length:Int)≠0 by omega);have hr2:=acF (i:Int) hlen;have hq1:0≤(i:Int) / (l.length:Int):=Int.ediv_nonneg acK acK;have hq2:(i:Int) / (l.length:Int)≤i:=Int.ediv_le_self _ acK;have ha:=uN (n:=l.getD ((i:Int) % (l.length:Int)).toNat default) (most:=1048576) acM;refine wA [2004,6003,6000,6000,1] [0,1,14] [] ?_;refine oE J J J J J J (nk (h64.get _) acM) ?_;refine wZ [6002,6000,6000,6000,8004] ?_;rotate_left
 all_goals
  unfold aw;first|(rw[if_pos acK];done)|(rw[if_neg acK];done)
abbrev YS:=dF 6 Tryz.func70
variable{a:List cK}
theorem cX {n most:Int}(ha:0<a.length∧a.length≤1000)(hn:0≤n∧n≤1000000000)(hm:0≤most∧most≤9):ak Tryz.prog 70 [af a,int n,int most] (.fresh 3 ((fT a.length n most).map int)):=by
 refine cF YS fun w0 M0 aa=>?_
 refine c4 [1007,6,0,10] [0,1,7,8,9] [7] ?_;have hm1:=Int.emod_nonneg n (show most+1≠0 by omega);have hm2:=acF n (show 0<most+1 by omega);have h7:0≤n / 7∧n / 7≤n:=⟨acK,acK⟩;have h11:0≤n / 11∧n / 11≤n:=⟨acK,acK⟩;refine lr (fun zl zo zm zs=>∃i:Nat,zm=(n % (most+1)).toNat-i∧((i:Int)≤n % (most+1))∧zs=eJ 33 [(7,.own 7),(9,vvw (int i))] zl [(7,.arr 3 (((List.range i).map (WZ a.length n)).map int))] zo) ?_ ?_;exact⟨_,0,rfl,acK,rfl⟩;rintro zm zs ⟨i,rfl,aY,rfl⟩;have hmul:0≤n / 11*(i:Int)∧n / 11*(i:Int)≤1000000000*10:=⟨Int.mul_nonneg h11.1 acK,Int.mul_le_mul acK acK acK acK⟩;have hlr:(List.range i).length=i:=aaA;refine wS [3008] [0,1,7,8,9,16] [7] ?_ ?_<;>intro h1;refine wA [8,1,1,0,1,0,0,1000,6,9002] [0,1,7,8,9] [7] ?_;exact⟨_,⟨i+1,rfl,acK,by rw[aa8,aas,aas];rfl⟩,acK⟩;refine wZ [8013] ?_;exact congrArg (RV.fresh _) (by unfold fT;rw[show(n % (most+1)).toNat=i by omega])
theorem YT:um Tryz.prog 65 Tryz.f65.ntmps 2 87 3 (Tryz.f65.body.getD .skip):=⟨Tryz.f65,Tryz.func65,rfl,rfl,rfl,acL,ja,ca⟩
theorem Hn (ha:a.length≤1000):ak Tryz.prog 65 [af a] (.p (rx (.mk 2 ((List.range a.length).map fun k:Nat=>(k:Int)) []))):=by
 refine ey YT (aah J) fun w0 M0 aa=>?_
 refine c4 [1007,9] [0,2,3,4] [2,3] ?_;refine lr (fun zl zo zm zs=>∃i:Nat,zm=a.length-i∧(i≤a.length)∧zs=eJ 17 [(3,.own 3),(4,vvw (int i))] zl [(3,.arr 3 (((List.range i).map fun k:Nat=>(k:Int)).map int))] zo) ?_ ?_;exact⟨_,0,rfl,aan _,rfl⟩;rintro zm zs ⟨i,rfl,aY,rfl⟩;have hlr:(List.range i).length=i:=aaA;refine wS [5,3003] [0,2,3,4,8] [2,3] ?_ ?_<;>intro h1;refine wA [8,1000,6,9002] [0,2,3,4] [2,3] ?_;exact⟨_,⟨i+1,rfl,acK,by rw[aa8,aas,aas];rfl⟩,acK⟩;refine wA [7] [2,3] [2,3] ?_;refine aI 17 [(2,_),(3,_)] [(2,_)] aa J ⟨.inl J,.inr ⟨_,_,rfl,rfl,rfl⟩,trivial⟩ ⟨rfl,trivial⟩ ?_;refine gz [2] [2,15] [2] ?_;refine oN J J J J J (mC ((List.range i).map fun k:Nat=>(k:Int))) ?_;refine wZ [4] ?_;refine aA J ?_;rw[show i=a.length by omega];rfl
abbrev YU:=dF 4 Tryz.func30
theorem gn {l:List Int}(h64:fx l)(hl:l.length≤9223372036854775807)(ha:0<a.length∧a.length≤1000):ak Tryz.prog 30 [af a,ints l] (.fresh 3 ((lC a.length l).map int)):=by
 refine cF YU fun w0 M0 aa=>?_
 refine c4 [1007,9] [0,1,5,6] [5] ?_;refine lr (fun zl zo zm zs=>∃i:Nat,zm=12-i∧(i≤l.length)∧(i≤12)∧zs=eJ 28 [(5,.own 5),(6,vvw (int i))] zl [(5,.arr 3 (((l.take i).map fun x=>iO x a.length).map int))] zo) ?_ ?_;exact⟨_,0,rfl,aan _,aan _,rfl⟩;rintro zm zs ⟨i,rfl,aY,aq,rfl⟩;have hlr:(l.take i).length=i:=by rw[aau];omega
 refine wS [5,4002] [0,1,5,6,11] [5] ?_ ?_<;>intro h1';refine wS [3005] [0,1,5,6,14] [5] ?_ ?_<;>intro h2;refine wZ [9,2,5000] ?_;refine oC J J J J (nk (h64.get _) acK) ?_;refine wA [0,1000,6,9002] [0,1,5,6] [5] ?_;exact⟨_,⟨i+1,rfl,acK,acK,by rw[take_succ acK,aas,aas];rfl⟩,acK⟩;refine wZ [8013] ?_;rotate_left;refine wZ [8018] ?_;rotate_left
 all_goals
  unfold lC;rw[show l.take 12=l.take i from KP acK acK acK]
end Go.Proofs.YtlapahnodhmcpaaGreat
namespace Go.Wf
open Go.Am Go.Wb Go.Wc
structure zx (f:aK):Prop where
 af:f.af.length≤1048576
 cuts:f.cuts.length≤1048576
 rules:f.rules.length≤1048576
theorem Q0 (f g:aK):decide (f=g)=(decide (f.cell=g.cell)&&decide (f.af=g.af)&&decide (f.cuts=g.cuts)&&decide (f.rules=g.rules)):=by obtain⟨a,b,c,d⟩:=f;obtain⟨a',b',c',d'⟩:=g;rw[abU];simp[and_assoc]
def yW (l:List Int)(x:Int):Bool:=l.any fun y=>decide (y=x)
end Go.Wf
namespace Go.Proofs.YtlapahnodhmcpaaGreat
open Go.Am Go.Wb Go.Wc Go.Wf Go.We
abbrev YV:=dF 4 Tryz.func24
theorem gp {a b:List Int}(ha:a.length≤1099511627776)(hb:b.length≤1099511627776):ak Tryz.prog 24 [ints a,ints b] (.p (bool (decide (a=b)))):=by
 refine cF YV fun w0 M0 aa=>?_
 refine pW [9,1,3003] [0,1,10] [] ?_ ?_<;>intro h1;refine wZ [8008] ?_;rw[decide_eq_false];intro he;subst he;exact h1 rfl;refine wA [10] [0,1,5] [] ?_;refine lr (fun zl zo zm zs=>∃k:Nat,zm=a.length-k∧(k≤a.length)∧(a.take k=b.take k)∧zs=eJ 26 [(5,vvw (int k))] zl [] zo) ?_ ?_;exact⟨_,0,rfl,aan _,rfl,rfl⟩;rintro zm zs ⟨k,rfl,aY,aq,rfl⟩;refine wS [5,3003] [0,1,5,14] [] ?_ ?_<;>intro h2;refine wS [2006,6002,6003,3004] [0,1,5,25] [] ?_ ?_<;>intro h3;refine wZ [8012] ?_;rw[decide_eq_false];intro he;subst he;exact h3 rfl;refine wA [6,9002] [0,1,5] [] ?_;exact⟨_,⟨k+1,rfl,acK,by rw[take_succ acK,take_succ acK,aq,h3],rfl⟩,acK⟩;refine wZ [8012] ?_;rw[decide_eq_true];have h:=aq;rw[aaB acK,aaB acK] at h;exact h
abbrev YW:=dF 4 Tryz.func60
theorem yX {a b:List (List UInt8)}(ha:a.length≤1099511627776)(hb:b.length≤1099511627776):ak Tryz.prog 60 [strs a,strs b] (.p (bool (decide (a=b)))):=by
 refine cF YW fun w0 M0 aa=>?_
 refine pW [9,1,3003] [0,1,10] [] ?_ ?_<;>intro h1;refine wZ [8008] ?_;rw[decide_eq_false];intro he;subst he;exact h1 rfl;refine wA [10] [0,1,5] [] ?_;refine lr (fun zl zo zm zs=>∃k:Nat,zm=a.length-k∧(k≤a.length)∧(a.take k=b.take k)∧zs=eJ 26 [(5,vvw (int k))] zl [] zo) ?_ ?_;exact⟨_,0,rfl,aan _,rfl,rfl⟩;rintro zm zs ⟨k,rfl,aY,aq,rfl⟩;refine wS [5,3003] [0,1,5,14] [] ?_ ?_<;>intro h2;refine wS [2006,6002,6003,6001,3002] [0,1,5,25] [] ?_ ?_<;>intro h3;refine wZ [8012] ?_;rw[decide_eq_false];intro he;subst he;exact h3 rfl;refine wA [6,9002] [0,1,5] [] ?_;exact⟨_,⟨k+1,rfl,acK,by rw[take_succ acK,take_succ acK,aq,h3],rfl⟩,acK⟩;refine wZ [8012] ?_;rw[decide_eq_true];have h:=aq;rw[aaB acK,aaB acK] at h;exact h
abbrev YX:=dF 4 Tryz.func32
theorem kR {f g:aK}(hf:zx f)(hg:zx g):ak Tryz.prog 32 [fQ f,fQ g] (.p (bool (decide (f=g)))):=by
 refine cF YX fun w0 M0 aa=>?_
 refine pW [2,0,9,4001] [2,3,10] [] ?_ ?_<;>intro h1';refine wA [4] [2,3,10,12,14] [] ?_;refine oC J J J J (gp (by have:=hf.af;omega) (by have:=hg.af;omega)) ?_;refine wS [4002] [2,3,17] [] ?_ ?_<;>intro h2';refine wA [4] [2,3,17,19,21] [] ?_;refine oC J J J J (gp (by have:=hf.cuts;omega) (by have:=hg.cuts;omega)) ?_;refine wS [4002] [2,3,24] [] ?_ ?_<;>intro h3';refine wA [4] [24,26,28] [] ?_;refine oC J J J J (yX (by have:=hf.rules;omega) (by have:=hg.rules;omega)) ?_;refine wZ [8005] ?_;rotate_left;refine wZ [8010] ?_;rotate_left;refine wZ [8017] ?_;rotate_left;refine wZ [8024] ?_;rotate_left
 all_goals
  rw[Q0];simp_all
abbrev YY:=dF 4 Tryz.func15
theorem yY {a b:List aK}(ha:a.length≤1099511627776)(hb:b.length≤1099511627776)(hA:∀x∈a,zx x)(hB:∀x∈b,zx x):ak Tryz.prog 15 [.sl (a.map fQ),.sl (b.map fQ)] (.p (bool (decide (a=b)))):=by
 refine cF YY fun w0 M0 aa=>?_
 refine pW [9,1,3003] [0,1,10] [] ?_ ?_<;>intro h1;refine wZ [8008] ?_;rw[decide_eq_false];intro he;subst he;exact h1 rfl;refine wA [10] [0,1,5] [] ?_;refine lr (fun zl zo zm zs=>∃k:Nat,zm=a.length-k∧(k≤a.length)∧(a.take k=b.take k)∧zs=eJ 27 [(5,vvw (int k))] zl [] zo) ?_ ?_;exact⟨_,0,rfl,aan _,rfl,rfl⟩;rintro zm zs ⟨k,rfl,aY,aq,rfl⟩;refine wS [5,3003] [0,1,5,14] [] ?_ ?_<;>intro h2;refine wA [2006,6002,6003,1] [0,1,5,20,24] [] ?_;refine oE J J J J J J (kR (f:=a.getD k default) (g:=b.getD k default) (hA _ (aM acK)) (hB _ (aM acK))) ?_;refine wS [3003] [0,1,5,26] [] ?_ ?_<;>intro h3;refine wZ [8012] ?_;rw[decide_eq_false];intro he;subst he;exact h3 rfl;refine wA [6,9002] [0,1,5] [] ?_;exact⟨_,⟨k+1,rfl,acK,by rw[take_succ acK,take_succ acK,aq,h3],rfl⟩,acK⟩;refine wZ [8012] ?_;rw[decide_eq_true];have h:=aq;rw[aaB acK,aaB acK] at h;exact h
end Go.Proofs.YtlapahnodhmcpaaGreat
