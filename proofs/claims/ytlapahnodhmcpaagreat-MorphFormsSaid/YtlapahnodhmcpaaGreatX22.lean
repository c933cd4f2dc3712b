/-
  Part of the proof.
-/
import Derived.Test.YtlapahnodhmcpaaGreatX20
import Derived.Test.YtlapahnodhmcpaaGreatX21
set_option linter.unusedVariables false
set_option linter.unusedSectionVars false
set_option linter.unusedSimpArgs false
set_option maxRecDepth 100000
set_option maxHeartbeats 40000000
namespace Go.Wf
open Go.Am Go.Wb Go.Wc
theorem PF {A:Nat}(hA:0<A∧A≤60)(l:List Int):Ye (zp A l):=by
 have hq:=xb l;refine⟨qu hA l,?_,?_,?_,abb (zn _ _) adj,fun c hc=>?_⟩
 ·show(List.map _ _).length≤_;have:=hq 0;rw[aaA,aa1];omega
 ·show(dd A l _).length≤_;have:=hq 1;rw[oi];omega
 ·show(List.map _ _).length≤_;have:=hq 30;rw[aaA,aa1];omega
 ·obtain⟨i,_,rfl⟩:=aa7.1 hc;show(List.map _ _).length≤_;have:=hq (31+i);rw[aaA,aa1];omega
def Dh (A:Nat)(g:aA)(m:List Int)(p how:Int):List aA:=[g,zp A m,{ g with order:=[] },RR A g p how,⟨[],[],[],[]⟩]
theorem RU {A:Nat}{g:aA}{m:List Int}{p how:Int}(hA:0<A∧A≤60)(h:mB g)(hs:mB (RR A g p how))(i:Nat):mB ((Dh A g m p how).getD i default):=by
 have hz:mB ⟨[],[],[],[]⟩:=⟨by decide,(fun r hr=>by cases hr),by decide,(fun c hc=>by cases hc),by decide⟩
 match i with
 | 0=>exact h
 | 1=>exact qu hA m
 | 2=>exact⟨h.nrules,h.rules,h.nclasses,h.classes,aaG _⟩
 | 3=>exact hs
 | 4=>exact hz
 | i+5=>exact hz
theorem PH {g:aA}{L:List da}{F:List (List aI)}(hF:rP F):(C9 g L F).length≤1000:=by
 unfold C9;split
 ·exact abb (Da _ _ _) hF.n
 ·exact aaG _
end Go.Wf
namespace Go.Proofs.YtlapahnodhmcpaaGreat
open Go.Am Go.Wb Go.Wc Go.Wf Go.We
abbrev fn7:=dT 8 Tryz.func7
theorem Ls {l m:List Int}{at_ how:Int}(hl:iK l)(hll:l.length≤9223372036854775807)(hm:iK m)(hml:m.length≤9223372036854775807)(hp:Ss at_)(hh:Ss how):au Tryz.prog 7 [ints l,ints m,int at_,int how] (.p (bool true)):=by
 have hlex:=ub hll hl;have hok:=Tf l;have haa:=zq l;have hgp:Ye (gG (kE l).length l):=PF adh _;generalize kE l=a at hlex hok haa hgp;generalize gG a.length l=g at hlex hok hgp;generalize fA a.length l 12=L at hlex hok;have hn:=q9 hok;have hr:=H2 hok;have hF:=hok.f;have Vm:(aL g L).length=L.length:=by unfold aL;rw[aaA]
 have hgs:=hok.gs;have hgsp:=U5 (A:=a.length) hgp at_ how;have hsp:=Gb (a:=a) (g:=g) (p:=at_) (how:=how) adh hgp hp hh;generalize aL g L=F at hn hr hF Vm;have hfl:=F7 hF;have hfb:∀x∈dM F,x.length≤1099511627776:=fun x hx=>abb (C6 hF _ _ x hx) adj
 refine aV.scl (cN fn7 fun w0 M0 ae=>?_);refine db [8] [1,2,3,27] [] ?_;refine oN J J J J J (hlex) ?_;refine wA [11] [1,2,3,9,10,11] [10] ?_;refine aD 109 [(1,_),(2,_),(3,_),(9,_),(10,_),(11,_)] [] ae J ⟨.inl J,.inl J,.inl J,.inl J,.inr ⟨_,_,rfl,rfl,rfl⟩,.inl J,trivial⟩ trivial ?_;refine gV [1] [1,2,3,9,10,11] [] ?_;refine oP J (ar (aF J lb jd J (aaz J)) J) ?_;refine wA [1] [1,2,3,9,10,11,33,34] [] ?_;refine oN J J J J J (hn) ?_;refine wA [11] [1,2,3,9,10,11,12,14] [] ?_;refine oP J (ar (aF J lb jd J (aaz J)) J) ?_;refine wA [1] [1,2,3,9,10,12,14,40,41] [] ?_;refine oN J J J J J (hr) ?_;refine wA [12] [1,2,3,9,10,12,14,15] [15] ?_;refine aD 109 [(1,_),(2,_),(3,_),(9,_),(10,_),(12,_),(14,_),(15,_)] [] ae J ⟨.inl J,.inl J,.inl J,.inl J,.inl J,.inl J,.inl J,.inr ⟨_,_,rfl,rfl,rfl⟩,trivial⟩ trivial ?_;refine gV [2000,1] [1,2,3,9,10,12,14,15,46] [] ?_;refine oD J J J (bA (b':=false) (iZ J Tryz.underlying35 J J) (rfl)) ?_;refine wA [2] [1,2,3,9,10,12,15,48,49] [] ?_;refine oD J J J (bA (b':=false) (dD J J J) (rfl)) ?_;refine wA [3] [1,2,3,9,10,12,15,52,53] [] ?_;refine oF J J J J J J J (lO hF) ?_;refine oD J J J (ar (aF J QX QW J (aaz J)) J) ?_;refine oF J J J J J J J (BA (m:=(⟨g,L,F⟩:wx)) hF) ?_;refine oD J J J (gn (b':=true) J J J (qm (a:=dM F) (b:=dM F) adh adh hfb hfb) ae (decide_eq_true J)) ?_;refine oD J J J (bA (b':=false) (kU J J) (rfl)) ?_;refine wA [10] [2,3,9,10,12,15,60,61] [] ?_;refine oN J J J J J (pj (a:=a) (l:=m) adh hml hm) ?_;refine wA [5] [2,3,9,10,12,15,18] [18] ?_;refine aD 109 [(2,_),(3,_),(9,_),(10,_),(12,_),(15,_),(18,_)] [] ae J ⟨.inl J,.inl J,.inl J,.inl J,.inl J,.inl J,.inr ⟨_,_,rfl,rfl,rfl⟩,trivial⟩ trivial ?_;refine gV [1] [2,3,9,10,12,15,18] [] ?_;refine oP J (ar (aF J lb jd J (aaz J)) J) ?_;refine wA [11] [2,3,9,10,12,15,18,19] [19] ?_;refine aD 109 [(2,_),(3,_),(9,_),(10,_),(12,_),(15,_),(18,_),(19,_)] [] ae J ⟨.inl J,.inl J,.inl J,.inl J,.inl J,.inl J,.inl J,.inr ⟨_,_,rfl,rfl,rfl⟩,trivial⟩ trivial ?_;refine oJ [2000,5000] ?_;refine oD J J J (ar (aF J lb jd J (aaz J)) J) ?_;refine oD J J J (ar (aF J lb jd J (aaz J)) J) ?_;refine oD J J J (ar (aF J lb jd J (aaz J)) J) ?_;refine wA [1] [2,3,10,12,15,65,66,67,68] [] ?_;refine oD J J J (ar (aF J lb jd J (aaz J)) J) ?_;refine wA [2] [12,15,65,66,67,68,69,70,71] [] ?_;refine oF J J J J J J J (hsp) ?_;refine oD J J J (ar (aK J V6 V5 J J J) J) ?_;refine wA [6000,10] [12,15,20,21] [] ?_;refine lp (fun zm zs=>∃i:Nat,zm=5-i∧(i≤5)∧zs=⟨109,[(12,vvw (sC L F)),(15,vvw (UH (⟨g,L,F⟩:wx))),(20,vvw (.sl ((Dh a.length g m at_ how).map cD))),(21,vvw (int i))],[]⟩) ?_ ?_;exact⟨_,0,rfl,aaG _,rfl⟩;rintro zm zs ⟨i,rfl,aY,rfl⟩;have h5:(Dh a.length g m at_ how).length=5:=rfl;have hgi:mB ((Dh a.length g m at_ how).getD i default):=RU adh hgs hgsp i;have hcl:(C9 ((Dh a.length g m at_ how).getD i default) L F).length≤1000:=PH hF;refine wS [5,3003] [12,15,20,21,78] [] ?_ ?_<;>intro h1;refine wA [10,1] [12,15,20,21,82,86] [] ?_;refine oN J J J J J (Dd (g:=((Dh a.length g m at_ how).getD i default)) (l:=L) hgi hok.n' hok.w' hF Vm) ?_;refine wZ [2008,5000] ?_;refine oD J J J (ar (aF J QX QW J (aaz J)) J) ?_;refine wA [6002,1] [12,15,20,21,22,23,91,95] [] ?_;refine oF J J J J J J J (zT (m:=(⟨g,L,F⟩:wx)) (g:=((Dh a.length g m at_ how).getD i default)) hgi hok.n' hok.w' hF Vm) ?_;refine wA [11] [12,15,20,21,22,24,99,100] [] ?_;refine oP J (bA (b':=false) (dD J J J) (by simp)) ?_;refine wA [3] [12,15,20,21,102,103,104] [] ?_;refine oP J (gn (b':=true) J J J (fu (a:=(C9 ((Dh a.length g m at_ how).getD i default) L F)) (b:=(C9 ((Dh a.length g m at_ how).getD i default) L F)) adh adh) ae (decide_eq_true J)) ?_;refine oP J (bA (b':=false) (kU J J) (rfl)) ?_;refine wA [9,9002] [12,15,20,21] [] ?_;exact⟨_,⟨i+1,rfl,adh,rfl⟩,adh⟩;refine wZ [8] ?_;refine oC J J J J (uc) ?_;refine wZ [8004] ?_;rfl
namespace morphForms
open Go.ChangeShapes Go.WideShapes Go.ChangeAt Go.RowKit Go.Am
theorem own:ownKnob Tryz.prog.godebug=none:=adi
theorem lifted (os:Os)(started:os.Started)(H:Type)(enc:TypeId×Value→H) :
  ReturnsInHanded {} Tryz.checked os 7 .any (Rows.morphFormsSpec.pre6 enc Tryz.prog Tryz.f7 Rows.morphFormsRow.domain false) (Rows.morphFormsSpec.post enc Tryz.prog Tryz.f7 false true false false):=by
 refine returnsInHanded_of_change (C:=Tryz.checked) own started adi Tryz.func7
  (ChangeSpec.witness6 (enc:=enc) (C:=Tryz.checked) false ⟨#[],#[.slice none 0 0,.slice none 0 0,.int .i64 0,.int .i64 0],[]⟩ 8 adi adi adi adi) ?_
 intro W base args ds gs before hval0 hW hcnd _;have hval:∀(j:Nat) t v,Tryz.f7.params[j]?=some t→args[j]?=some v→Value.okWide Tryz.prog W .any base t v:=hval0;have hW':=hW;obtain⟨p,q,hA0,hV,rfl,hfz,hnd⟩:=hW;have hA:DataW.TrodAll enc Tryz.prog W 0 (fun _=>true) true Tryz.f7.params.toList args.toList ds p:=hA0;rw[Tryz.params7] at hA hval;obtain⟨v0,vs0,d0,ds0,p0,q0,hargs,rfl,rfl,h0,r0⟩:=trodAll_cons hA;obtain⟨v1,vs1,d1,ds1,p1,q1,rfl,rfl,rfl,h1,r1⟩:=trodAll_cons r0;obtain⟨v2,vs2,d2,ds2,p2,q2,rfl,rfl,rfl,h2,r2⟩:=trodAll_cons r1;obtain⟨v3,vs3,d3,ds3,p3,q3,rfl,rfl,rfl,h3,r3⟩:=trodAll_cons r2;obtain⟨rfl,rfl,rfl⟩:=trodAll_nil r3;obtain rfl:args=#[v0,v1,v2,v3]:=by cases args;simp_all
 obtain⟨x0,y0,z0,e0⟩:=r4 Tryz.underlying22 Tryz.underlying3 w6 (hval 0 22 v0 rfl rfl) h0;obtain⟨x1,y1,z1,e1⟩:=r4 Tryz.underlying22 Tryz.underlying3 w6 (hval 1 22 v1 rfl rfl) h1;obtain⟨x2,y2,e2⟩:=uk Tryz.underlying3 (hval 2 3 v2 rfl rfl) h2;obtain⟨x3,y3,e3⟩:=uk Tryz.underlying3 (hval 3 3 v3 rfl rfl) h3;have hcall:=(Ls y0 z0 y1 z1 y2 y3).use (w:=W) (vs:=[v0,v1,v2,v3]) ⟨e0,e1,e2,e3,trivial⟩;exact DR (tb:=4) adi adi adi Tryz.underlying4 J J hW' hcall
theorem U9:Rows.morphFormsRow.holds Tryz.pinned (OpenSpec.ofChange Rows.morphFormsSpec) :=
 OpenClaim.holds_of_wide 7 Tryz.f7 rfl rfl rfl rfl rfl rfl rfl ⟨rfl,rfl,rfl,rfl,rfl⟩ rfl rfl rfl rfl rfl adi Tryz.func7 adi
  (of_decide_eq_true adi) (by unfold Func.isWrapper;first|(rw[if_pos (by decide +kernel)];kernel_rfl)|(rw[if_neg (by decide +kernel)];exact⟨rfl,rfl⟩))
  (fun os started H enc _=>lifted os started H enc)
end morphForms
theorem morphForms_holds:Rows.MorphFormsSaid:=morphForms.U9
end Go.Proofs.YtlapahnodhmcpaaGreat
