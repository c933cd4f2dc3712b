/-
  Part of the proof.
-/
import Derived.Test.YtlapahnodhmcpaaGreatX18
set_option linter.unusedVariables false
set_option linter.unusedSectionVars false
set_option linter.unusedSimpArgs false
set_option maxRecDepth 100000
set_option maxHeartbeats 40000000
namespace Go.Wf
open Go.Am Go.Wb Go.Wc
abbrev PU:aA:=⟨[],[],[⟨[110],.mk 5 [] [.mk 2 [0,1,2,3,4,5,6] []],0,[⟨[115,103],[],[],[]⟩,⟨[112,108],[],[5],[]⟩]⟩],[]⟩
abbrev Lp:List da:=[⟨[2,0,6],[110]⟩,⟨[2,0,6,5],[110]⟩]
abbrev Ys:List da:=[⟨[2,0,6,5],[110]⟩,⟨[2,0,6,5],[118]⟩]
abbrev Jw:List (List aI):=aL PU Lp
abbrev lvA:List jj:=[⟨0,⟨[112,108],[2,0,6,5],[3],[]⟩⟩,⟨1,⟨[115,103],[2,0,6,5],[],[]⟩⟩]
theorem Pz:mB PU:=by refine⟨by decide,(fun r hr=>by cases hr),by decide,fun c hc=>?_,by decide⟩;rw[aaY.1 hc];refine⟨by decide,fun x hx=>?_,by decide +kernel,by decide +kernel⟩;simp only[aa3,acX,or_false] at hx;rcases hx with rfl|rfl<;>exact⟨by decide,by decide,by decide⟩
theorem Ya:ji PU Lp=0:=by decide +kernel
theorem Yb:u7 PU Lp=0:=by decide +kernel
theorem Te:ji PU Ys=6:=by decide +kernel
theorem Yc:u7 PU Ys=1:=by decide +kernel
theorem UX:ke Jw [2,0,6,5]=lvA:=by rw[HV (mF _ _)];decide +kernel
theorem RN:cJ (ke Jw [2,0,6,5]) (ke Jw [2,0,6,5]).length=[]:=by rw[Ju (mF _ _)];decide +kernel
theorem UY:(RI Jw).length=3:=by rw[Ph];decide +kernel
theorem UZ:(RA Jw 1).length=2:=by decide +kernel
theorem Jx:rP Jw:=qq Pz adj
def PA (A:Nat)(F:List (List aI))(m:List Int):List (List Int):=[tP A m,[],[63],[-1]]++(dM F).take 20
theorem Lq {l:List (List Int)}{i:Nat}(h:i≤l.length)(h2:i≤20)(h3:¬(i<l.length∧i<20)):l.take 20=l.take i:=by
 rcases aa9 i 20 with h4|h4
 ·rw[aa2 adh,aa2 adh]
 ·rw[show i=20 by omega]
def zt (l:List jj)(x:Int)(f:aI):Bool:=l.any fun a=>decide (a.lexeme=x)&&decide (a.form=f)
theorem U0 {α:Type} [Inhabited α]{p:α→Bool}{l:List α}{k:Nat}(hk:k<l.length)(h:p (l.getD k default)=true):l.any p=true:=abk.2 ⟨_,aO hk,h⟩
end Go.Wf
namespace Go.Proofs.YtlapahnodhmcpaaGreat
open Go.Am Go.Wb Go.Wc Go.Wf Go.We
theorem ub {l:List Int}(hl:l.length≤9223372036854775807)(h64:iK l):aV Tryz.prog 10 [ints l] (.p (.tup [af (kE l),cD (gG (kE l).length l),.sl ((fA (kE l).length l 12).map dx)])):=by
 by_cases h:nw l 0 3=1
 ·rw[show kE l=ay (l.drop 1) from if_pos h];exact z6 hl h64 h
 ·rw[show kE l=aU from if_neg h];exact z7 hl h64 h
theorem RO:aV Tryz.prog 12 [cD PU,.sl (Lp.map dx)] (.p (.tup [sC Lp Jw,int 0,int 0])):=by have:=vd (g:=PU) (l:=Lp) Pz adj adj Ya;rwa [Yb] at this
theorem RP:aV Tryz.prog 12 [cD PU,.sl (Ys.map dx)] (.p (.tup [.sc (.pointer none),int 1,int 6])):=by have:=BB (g:=PU) (l:=Ys) Pz adj adj (by rw[Te];decide);rwa [Yc,Te] at this
theorem HZ:aV Tryz.prog 22 [sC Lp Jw,ints [2,0,6,5]] (.p (.sl (lvA.map rp))):=by have:=tX (l:=Lp) (F:=Jw) (w:=[2,0,6,5]) Jx adj;rwa [UX] at this
theorem PB:aV Tryz.prog 25 [sC Lp Jw,ints [2,0,6,5]] (.p (ints [])):=by have:=BD (l:=Lp) (F:=Jw) (w:=[2,0,6,5]) Jx adj;rwa [RN] at this
abbrev aau:=dT 0 Tryz.func19
theorem uc:au Tryz.prog 19 [] (.p (bool true)):=by
 refine cF aau fun w0 M0 ae=>?_
 refine AD [7,5000] ?_;refine oP J (ar (aK J yA my J J J) J) ?_;refine wZ [0,5000] ?_;refine oP J (ar (aK J yA my J J J) J) ?_;refine wA [7] [15] [] ?_;refine oP J (ar (aK J A9 A8 J J J) J) ?_;refine wA [0,0] [15,16,17] [] ?_;refine oP J (ar (aK J A9 A8 J J J) J) ?_;refine wA [0,0] [15,19] [] ?_;refine oP J (ar (aK J Uo Q0 J J J) J) ?_;refine wA [0,0] [21] [] ?_;refine oP J (ar (aK J V6 V5 J J J) J) ?_;refine wZ [6,6,3,5000] ?_;refine oN J J J J J (RO) ?_;refine wZ [16,5000] ?_;refine oN J J J J J (RP) ?_;refine wA [13] [3,4,6,8,9,46] [] ?_;refine oP J (bA (b':=false) (iZ J Tryz.underlying35 J J) (rfl)) ?_;refine wA [2] [3,4,8,9,48,49] [] ?_;refine oP J (bA (b':=false) (dD J J J) (rfl)) ?_;refine wA [3] [3,4,9,52,53] [] ?_;refine oP J (bA (b':=false) (dD J J J) (rfl)) ?_;refine wA [3] [3,4,56,57] [] ?_;refine oP J (bA (b':=false) (jN J J J) (rfl)) ?_;refine wA [10] [3,4,60,61] [] ?_;refine oN J J J J J (HZ) ?_;refine wZ [7,5000] ?_;refine oP J (bA (b':=false) (dD J J J) (rfl)) ?_;refine wA [2] [3,4,10,66,67] [] ?_;refine oP J (dh J Tryz.underlying55 KJ J J adj (fun _=>rfl)) ?_;refine wA [2] [3,4,10,66,70] [] ?_;refine oP J (bA (b':=false) (dD J J J) (rfl)) ?_;refine wA [3] [3,4,10,73,74] [] ?_;refine oP J (dh J Tryz.underlying55 KJ J J adj (fun _=>rfl)) ?_;refine wA [3] [3,4,10,73,78] [] ?_;refine oP J (bA (b':=false) (ui J J J) adj) ?_;refine wA [3] [3,4,10,81,82] [] ?_;refine oP J (dh J Tryz.underlying55 KJ J J adj (fun _=>rfl)) ?_;refine wA [2] [3,4,10,81,85] [] ?_;refine oP J (bA (b':=false) (dD J J J) (rfl)) ?_;refine wA [3] [3,4,10,88,89] [] ?_;refine oP J (dh J Tryz.underlying55 KJ J J adj (fun _=>rfl)) ?_;refine wA [3] [3,4,10,88,93] [] ?_;refine oP J (bA (b':=false) (ui J J J) adj) ?_;refine wA [9] [3,4,10,96] [] ?_;refine oN J J J J J (Lf (l:=Lp) (F:=Jw) adj) ?_;refine oP J (bA (b':=true) (jN J J J) adj) ?_;refine wA [2] [3,4,10,99,100] [] ?_;refine oP J (dh J Tryz.underlying55 KJ J J adj (fun _=>rfl)) ?_;refine wZ [3,5000] ?_;refine oP J (gn (b':=true) J J J (fu (a:=[3]) (b:=[3]) adj adj) ae adj) ?_;refine wA [3] [3,4,108,109] [] ?_;refine oP J (dh J Tryz.underlying55 KJ J J adj (fun _=>rfl)) ?_;refine wZ [3,5000] ?_;refine oP J (bA (b':=true) (jN J J J) adj) ?_;refine wA [4] [4,117,118,119] [] ?_;refine oN J J J J J (PB) ?_;refine wA [0,0] [4,117,121] [] ?_;refine oP J (bA (b':=true) (jN J J J) adj) ?_;refine wA [3] [4,124,125] [] ?_;refine oN J J J J J (vZ (l:=Lp) (F:=Jw) Jx) ?_;refine wA [0,0] [4,124,127] [] ?_;refine oP J (bA (b':=true) (jN J J J) (by rw[UY];rfl)) ?_;refine wA [3] [130,131] [] ?_;refine oN J J J J J (zU (l:=Lp) (F:=Jw) (i:=1) Jx) ?_;refine wA [0,0] [130,133] [] ?_;refine oP J (bA (b':=true) (jN J J J) (by rw[UZ];rfl)) ?_;refine wZ [8005] ?_;rfl
abbrev aav:=dT 6 Tryz.func20
theorem U1 {a:List cP}{y:wx}{m:List Int}(ha:0<a.length∧a.length≤1000)(hF:rP y.f)(hm:m.length≤9223372036854775807)(h64:iK m):aV Tryz.prog 20 [af a,La y,ints m] (.p (nC (PA a.length y.f m))):=by
 refine cN aav fun w0 M0 ae=>?_
 refine db [2,5] [0,2,4] [] ?_;refine oP J (ar (aF J QX QW J (aaz J)) J) ?_;refine oN J J J J J (BA hF) ?_;refine wA [7] [7,12,13] [] ?_;refine oP J (bE J J J ((au.weaken (sy h64 hm ha))) ae) ?_;refine wA [0,0,1000,10] [7,8,9] [17] ?_;refine lr (fun zl zo zm zs=>∃i:Nat,zm=20-i∧(i≤(dM y.f).length)∧(i≤20)∧zs=eV 36 [(8,.own 17),(9,vvw (int i))] zl [(17,.arr 22 (([tP a.length m,[],[63],[-1]]++(dM y.f).take i).map ints))] zo) ?_ ?_;exact⟨_,0,rfl,aaG _,aaG _,rfl⟩;rintro zm zs ⟨i,rfl,aY,ax,rfl⟩;have hlr:((dM y.f).take i).length=i:=by rw[aaO];omega
 refine wS [5,4002] [7,8,9,22] [17] ?_ ?_<;>intro h1';refine wS [3005] [7,8,9,25] [17] ?_ ?_<;>intro h2;refine wA [9,1,1000,6,9002] [7,8,9] [17] ?_;exact⟨_,⟨i+1,rfl,adh,adh,by rw[take_succ adh,aaK,aaK,aaK,abr];rfl⟩,adh⟩;refine wA [7] [8] [17] ?_;refine aD 36 [(8,_)] [] ae J ⟨.inr ⟨_,_,rfl,rfl,rfl⟩,trivial⟩ trivial ?_;refine oJ [8006] ?_;rotate_left;refine wA [12] [8] [17] ?_;refine aD 36 [(8,_)] [] ae J ⟨.inr ⟨_,_,rfl,rfl,rfl⟩,trivial⟩ trivial ?_;refine oJ [8006] ?_;rotate_left
 all_goals
  unfold PA;rw[Lq (l:=dM y.f) (i:=i) adh adh adh]
abbrev aaw:=dT 6 Tryz.func28
theorem H0 {l:List jj}{x:Int}{f:aI}(hl:l.length≤1099511627776)(hL:∀a∈l,zS a.form)(hf:zS f):au Tryz.prog 28 [.sl (l.map rp),int x,gF f] (.p (bool (zt l x f))):=by
 refine cF aaw fun w0 M0 ae=>?_
 refine db [2,10] [0,1,5,7] [] ?_;refine lr (fun zl zo zm zs=>∃k:Nat,zm=l.length-k∧(k≤l.length)∧(∀j,j<k→(decide ((l.getD j default).lexeme=x)&&decide ((l.getD j default).form=f))=false)∧zs=eV 30 [(7,vvw (int k))] zl [] zo) ?_ ?_;exact⟨_,0,rfl,aaG _,fun j hj=>absurd hj adh,rfl⟩;rintro zm zs ⟨k,rfl,aY,ax,rfl⟩;refine wS [5,3003] [0,1,5,7,11] [] ?_ ?_<;>intro h1;refine wS [2006,6002,7005] [0,1,5,7,21] [] ?_ ?_<;>intro h2';refine wA [6002,3] [0,1,5,7,21,26,27] [] ?_;refine oE J J J J J J (rN (f:=(l.getD k default).form) (g:=f) (hL _ (aO adh)) hf) ?_;refine wS [3003] [0,1,5,7,29] [] ?_ ?_<;>intro h3;refine wZ [8012] ?_;rotate_left;refine wA [6,9002] [0,1,5,7] [] ?_;rotate_left;refine wA [16,9002] [0,1,5,7] [] ?_;rotate_left;refine wZ [8012] ?_;rotate_left
 all_goals first
  | (
    unfold zt;first|(rw[U0 (p:=fun a:jj=>decide (a.lexeme=x)&&decide (a.form=f)) (k:=k) adh (by simp_all)];done)|(rw[Ce (p:=fun a:jj=>decide (a.lexeme=x)&&decide (a.form=f)) (fun j hj=>ax j adh)];done);done)
  | (
    exact⟨_,⟨k+1,rfl,adh,cc ax (by simp_all),rfl⟩,adh⟩;done)
end Go.Proofs.YtlapahnodhmcpaaGreat
namespace Go.Am
theorem aV.scl {P:Program}{f:FuncId}{ds:List AV}{v:Value}(h:aV P f ds (.p (.sc v))):au P f ds (.p (.sc v)) :=
 ⟨h.1, fun w vs hv hr => (h.2 w (fun _ => False) vs (fun b hb => hb.elim) hv hr).mono fun e w' ⟨z, he, hb, hrv⟩ => ⟨z, he, hb, by
  have h1:bL w' (fun _=>False) z (.sc v):=hrv;cases h1 with
  | sc _ h2=>exact bL.sc _ h2⟩⟩
end Go.Am
namespace Go.Wf
open Go.Am Go.Wb Go.Wc
theorem U2 {g:aA}{l:List da}(h:l.length≤64)(hz:∀x∈l,c5 g x.class_ x.lemma_=0):ji g l=0:=by unfold ji;rw[if_neg adh,C5 fun j hj=>decide_eq_true (hz _ (aO hj))]
structure lo (g:aA)(L:List da):Prop where
 gs:mB g
 n:L.length≤5
 w:∀x∈L,x.lemma_.length≤12
 e:∀x∈L,c5 g x.class_ x.lemma_=0
theorem Tf (l:List Int):lo (gG (kE l).length l) (fA (kE l).length l 12):=by have:=zq l;exact⟨qu adh _,ua _,fun x hx=>(xd hx).2,fun x hx=>(xd hx).1⟩
variable {g:aA} {L:List da}
theorem lo.new (h:lo g L):ji g L=0:=U2 (by have:=h.n;omega) h.e
theorem lo.f (h:lo g L):rP (aL g L):=qq h.gs (by have:=h.n;omega)
theorem lo.w' (h:lo g L):∀x∈L,x.lemma_.length≤1048576:=fun x hx=>abb (h.w x hx) adj
theorem lo.n' (h:lo g L):L.length≤1048576:=abb h.n adj
variable{F:List (List aI)}
theorem ud (hF:rP F)(w:List Int):(eQ F w).length≤1001000:=abb (Jn _ _ _ _) (nn hF (aaD _) adh)
theorem xg (hF:rP F)(w:List Int):∀x∈eQ F w,zS x.form:=fun x hx=>by obtain⟨p,_,rfl,_⟩:=F1 hx;exact fU hF p
theorem BI (F:List (List aI))(w:List Int):(rQ F w).length≤w.length+1:=by
 unfold rQ;split
 ·exact aaG _
 ·exact HP _ _
theorem F7 (hF:rP F):(dM F).length≤1001000:=abb (O4 _ _ _) (nn hF (aaD _) adh)
end Go.Wf
namespace Go.Proofs.YtlapahnodhmcpaaGreat
open Go.Am Go.Wb Go.Wc Go.Wf Go.We
variable{l:List da}
theorem nB {F:List (List aI)}{w:List Int}(hF:rP F)(hG:v7 F)(hw:w.length≤1048576):aV Tryz.prog 22 [sC l F,ints w] (.p (.sl ((eQ F w).map rp))):=by have:=tX (l:=l) hF hw;rwa [HV hG] at this
theorem zu {F:List (List aI)}{w:List Int}(hF:rP F)(hG:v7 F)(hw:w.length≤1048576):aV Tryz.prog 25 [sC l F,ints w] (.p (ints (rQ F w))):=by have:=BD (l:=l) hF hw;rwa [Ju hG] at this
theorem lO {F:List (List aI)}(hF:rP F):aV Tryz.prog 27 [sC l F] (.p (nC (dM F))):=by have:=vZ (l:=l) hF;rwa [Ph] at this
theorem q9 {g:aA}{L:List da}(h:lo g L):aV Tryz.prog 12 [cD g,.sl (L.map dx)] (.p (.tup [sC L (aL g L),int (u7 g L),int 0])):=vd h.gs h.n' h.w' h.new
theorem H2 {g:aA}{L:List da}(h:lo g L):aV Tryz.prog 13 [cD g,.sl (L.map dx)] (.p (.tup [La ⟨g,L,aL g L⟩,int (u7 g L),int 0])):=by have:=Bz h.gs h.n' h.w';rwa [C8 h.new,h.new] at this
namespace morphAnalyses
open Go.ChangeShapes Go.WideShapes Go.ChangeAt Go.RowKit Go.Am
end morphAnalyses
end Go.Proofs.YtlapahnodhmcpaaGreat
namespace Go.Wf
open Go.Am Go.Wb Go.Wc
variable {F:List (List aI)}{w:List Int}
theorem RQ {p:Nat×Nat}(h1:p.1<F.length)(h2:p.2<(F.getD p.1 default).length):p∈aQ F F.length 0:=by unfold aQ;rw[List.range_zero,abW,abe,aca];exact⟨p.1,aba.2 h1,aa7.2 ⟨p.2,aba.2 h2,rfl⟩⟩
theorem Lr {l:List jj}{x:Int}{f:aI}:zt l x f=true↔(⟨x,f⟩:jj)∈l:=by
 unfold zt;rw[abk];constructor
 ·rintro⟨a,ha,h⟩;rw[aaZ,decide_eq_true_eq,decide_eq_true_eq] at h;obtain⟨rfl,rfl⟩:=h;exact ha
 ·intro h;exact⟨_,h,by rw[decide_eq_true J,decide_eq_true J];rfl⟩
end Go.Wf
namespace Go.Proofs.YtlapahnodhmcpaaGreat
open Go.Am Go.Wb Go.Wc Go.Wf Go.We
namespace morphTwoWays
open Go.ChangeShapes Go.WideShapes Go.ChangeAt Go.RowKit Go.Am
end morphTwoWays
end Go.Proofs.YtlapahnodhmcpaaGreat
namespace Go.Wf
open Go.Am Go.Wb Go.Wc
end Go.Wf
namespace Go.Am
section
variable {P:Program} {w0:Fr}{M0:Nat→Prop}{o:Oper}{ρ:Operand→Option SV}{ob:List (Nat×Ob)}{x y:Operand}{T T':TypeId}{c:fX}
end
end Go.Am
namespace Go.Proofs.YtlapahnodhmcpaaGreat
open Go.Am Go.Wb Go.Wc Go.Wf Go.We
namespace morphNew
open Go.ChangeShapes Go.WideShapes Go.ChangeAt Go.RowKit Go.Am
end morphNew
end Go.Proofs.YtlapahnodhmcpaaGreat
