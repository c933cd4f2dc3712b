/-
  Part of the proof.
-/
import Derived.Test.YtlapahnodhmcpaaGreatX5
set_option linter.unusedVariables false
set_option linter.unusedSectionVars false
set_option linter.unusedSimpArgs false
set_option maxRecDepth 100000
set_option maxHeartbeats 40000000
namespace Go.Proofs.YtlapahnodhmcpaaGreat
open Go.Am Go.Wb
abbrev Ww:=dT 4 Tryz.func193
theorem rI:∀ (m:Nat)(a b:Rx),a.size≤m→m≤1099511627776→b.size≤1099511627776→au Tryz.prog 193 [rx a,rx b] (.p (int (dt a b))):=by
 intro m
 induction m with
 | zero=>intro a _ hr _ _;have:=size_pos a;omega
 | succ m ih =>
 intro a b hr hm hbs;have hkl:=ek a;have hkl2:=ek b;have hsl:=eJ a;have hsl2:=eJ b;rw[fy a,fy b];refine cF Ww fun w0 M0 ae=>?_
 refine db [2,0,9] [2,3,9,11] [] ?_;refine oC J J J J (cW) ?_;refine wA [10] [2,3,5,6] [] ?_;refine lr (fun zl zo zm zs=>∃(i:Nat)(c:Int),zm=a.syms.length-i∧(i≤a.syms.length)∧(i≤b.syms.length)∧(nI (bS a.kind b.kind) (bC a.syms b.syms)=nI c (bC (a.syms.drop i) (b.syms.drop i)))∧zs=eV 90 [(5,vvw (int c)),(6,vvw (int i))] zl [] zo) ?_ ?_;exact⟨_,0,_,rfl,aaG _,aaG _,rfl,rfl⟩;rintro zm zs ⟨i,c,rfl,aY,ax,c7,rfl⟩;refine wS [6,4002] [2,3,5,6,18] [] ?_ ?_<;>intro h1';refine wS [3,4003] [2,3,5,6,25] [] ?_ ?_<;>intro h2';refine wS [3005] [2,3,5,6,28] [] ?_ ?_<;>intro h3;refine wA [2005,6003,6004,1] [2,3,6,35,40] [] ?_;refine oE J J J J J J (cW) ?_;refine wA [6,9002] [2,3,5,6] [] ?_;exact⟨_,⟨i+1,_,rfl,adh,adh,MT c7 adh adh adh,rfl⟩,adh⟩;refine wA [6] [2,3,5] [] ?_;refine ct (fun zs=>∃z:Int,(z=nI (bS a.kind b.kind) (bC a.syms b.syms))∧zs=⟨90,[(2,vvz (wi a)),(3,vvz (wi b)),(5,vvw (int z))],[]⟩) ?_ ?_;refine wS [3006] [2,3,5,43] [] ?_ ?_<;>intro h4;refine wZ [4,2,5000] ?_;refine oC J J J J (cW) ?_;refine wA [10002] [2,3,5] [] ?_;rotate_left;refine wA [10002] [2,3,5] [] ?_;rotate_left;rintro zs ⟨z,vN,rfl⟩;refine wA [7] [2,3,5,7] [] ?_;refine lp (fun zm zs=>∃(i:Nat)(c:Int),zm=a.kids.length-i∧(i≤a.kids.length)∧(i≤b.kids.length)∧(dt a b=nI c (cL (a.kids.drop i) (b.kids.drop i)))∧zs=⟨90,[(2,vvz (wi a)),(3,vvz (wi b)),(5,vvw (int c)),(7,vvw (int i))],[]⟩) ?_ ?_;exact⟨_,0,_,rfl,aaG _,aaG _,by rw[vN];exact tf a b,rfl⟩;rintro zm zs ⟨i,c,rfl,gi,gj,nc,rfl⟩;refine wS [6,4002] [2,3,5,7,56] [] ?_ ?_<;>intro h5';refine wS [3,4003] [2,3,5,7,63] [] ?_ ?_<;>intro h6';refine wS [3005] [2,3,5,7,66] [] ?_ ?_<;>intro h7;refine wA [2005,6003,6004,1] [2,3,7,73,78] [] ?_;refine oE J J J J J J (ih _ _ (abI (abj (il adh) hr)) adh (abb (Nat.le_of_lt (il adh)) hbs)) ?_;refine wA [6,9002] [2,3,5,7] [] ?_;rotate_left;refine wS [3013] [2,3,5,81] [] ?_ ?_<;>intro h8;refine wZ [4,2,5000] ?_;refine oC J J J J (cW) ?_;refine wZ [8010] ?_;rotate_left;refine wZ [8010] ?_;rotate_left;refine wS [3018] [2,3,5,81] [] ?_ ?_<;>intro h9;refine wZ [4,2,5000] ?_;refine oC J J J J (cW) ?_;refine wZ [8010] ?_;rotate_left;refine wZ [8010] ?_;rotate_left;refine wS [3025] [2,3,5,81] [] ?_ ?_<;>intro h10;refine wZ [4,2,5000] ?_;refine oC J J J J (cW) ?_;refine wZ [8010] ?_;rotate_left;refine wZ [8010] ?_;rotate_left;refine wA [11] [2,3,5] [] ?_;refine ct (fun zs=>∃z:Int,(z=nI (bS a.kind b.kind) (bC a.syms b.syms))∧zs=⟨90,[(2,vvz (wi a)),(3,vvz (wi b)),(5,vvw (int z))],[]⟩) ?_ ?_;refine wS [3006] [2,3,5,43] [] ?_ ?_<;>intro h11;refine wZ [4,2,5000] ?_;refine oC J J J J (cW) ?_;refine wA [10002] [2,3,5] [] ?_;rotate_left;refine wA [10002] [2,3,5] [] ?_;rotate_left;rintro zs ⟨z,vN,rfl⟩;refine wA [7] [2,3,5,7] [] ?_;refine lp (fun zm zs=>∃(i:Nat)(c:Int),zm=a.kids.length-i∧(i≤a.kids.length)∧(i≤b.kids.length)∧(dt a b=nI c (cL (a.kids.drop i) (b.kids.drop i)))∧zs=⟨90,[(2,vvz (wi a)),(3,vvz (wi b)),(5,vvw (int c)),(7,vvw (int i))],[]⟩) ?_ ?_;exact⟨_,0,_,rfl,aaG _,aaG _,by rw[vN];exact tf a b,rfl⟩;rintro zm zs ⟨i,c,rfl,gi,gj,nc,rfl⟩;refine wS [6,4002] [2,3,5,7,56] [] ?_ ?_<;>intro h12';refine wS [3,4003] [2,3,5,7,63] [] ?_ ?_<;>intro h13';refine wS [3005] [2,3,5,7,66] [] ?_ ?_<;>intro h14;refine wA [2005,6003,6004,1] [2,3,7,73,78] [] ?_;refine oE J J J J J J (ih _ _ (abI (abj (il adh) hr)) adh (abb (Nat.le_of_lt (il adh)) hbs)) ?_;refine wA [6,9002] [2,3,5,7] [] ?_;rotate_left;refine wS [3013] [2,3,5,81] [] ?_ ?_<;>intro h15;refine wZ [4,2,5000] ?_;refine oC J J J J (cW) ?_;refine wZ [8010] ?_;rotate_left;refine wZ [8010] ?_;rotate_left;refine wS [3018] [2,3,5,81] [] ?_ ?_<;>intro h16;refine wZ [4,2,5000] ?_;refine oC J J J J (cW) ?_;refine wZ [8010] ?_;rotate_left;refine wZ [8010] ?_;rotate_left;refine wS [3025] [2,3,5,81] [] ?_ ?_<;>intro h17;refine wZ [4,2,5000] ?_;refine oC J J J J (cW) ?_;refine wZ [8010] ?_;rotate_left;refine wZ [8010] ?_;rotate_left;refine wA [18] [2,3,5] [] ?_;refine ct (fun zs=>∃z:Int,(z=nI (bS a.kind b.kind) (bC a.syms b.syms))∧zs=⟨90,[(2,vvz (wi a)),(3,vvz (wi b)),(5,vvw (int z))],[]⟩) ?_ ?_;refine wS [3006] [2,3,5,43] [] ?_ ?_<;>intro h18;refine wZ [4,2,5000] ?_;refine oC J J J J (cW) ?_;refine wA [10002] [2,3,5] [] ?_;rotate_left;refine wA [10002] [2,3,5] [] ?_;rotate_left;rintro zs ⟨z,vN,rfl⟩;refine wA [7] [2,3,5,7] [] ?_;refine lp (fun zm zs=>∃(i:Nat)(c:Int),zm=a.kids.length-i∧(i≤a.kids.length)∧(i≤b.kids.length)∧(dt a b=nI c (cL (a.kids.drop i) (b.kids.drop i)))∧zs=⟨90,[(2,vvz (wi a)),(3,vvz (wi b)),(5,vvw (int c)),(7,vvw (int i))],[]⟩) ?_ ?_;exact⟨_,0,_,rfl,aaG _,aaG _,by rw[vN];exact tf a b,rfl⟩;rintro zm zs ⟨i,c,rfl,gi,gj,nc,rfl⟩;refine wS [6,4002] [2,3,5,7,56] [] ?_ ?_<;>intro h19';refine wS [3,4003] [2,3,5,7,63] [] ?_ ?_<;>intro h20';refine wS [3005] [2,3,5,7,66] [] ?_ ?_<;>intro h21;refine wA [2005,6003,6004,1] [2,3,7,73,78] [] ?_;refine oE J J J J J J (ih _ _ (abI (abj (il adh) hr)) adh (abb (Nat.le_of_lt (il adh)) hbs)) ?_;refine wA [6,9002] [2,3,5,7] [] ?_;rotate_left;refine wS [3013] [2,3,5,81] [] ?_ ?_<;>intro h22;refine wZ [4,2,5000] ?_;refine oC J J J J (cW) ?_;refine wZ [8010] ?_;rotate_left;refine wZ [8010] ?_;rotate_left;refine wS [3018] [2,3,5,81] [] ?_ ?_<;>intro h23;refine wZ [4,2,5000] ?_;refine oC J J J J (cW) ?_;refine wZ [8010] ?_;rotate_left;refine wZ [8010] ?_;rotate_left;refine wS [3025] [2,3,5,81] [] ?_ ?_<;>intro h24;refine wZ [4,2,5000] ?_;refine oC J J J J (cW) ?_;refine wZ [8010] ?_;rotate_left;refine wZ [8010] ?_;rotate_left
 all_goals first
  | (
    first|(exfalso;omega)|exact⟨_,Ik c7 adh,rfl⟩|exact⟨_,Qh c7 adh aY ax adh,rfl⟩;done)
  | (
    exact⟨_,⟨i+1,_,rfl,adh,adh,MU nc adh adh adh,rfl⟩,adh⟩;done)
  | (
    first|(exfalso;omega)|exact congrArg (fun z=>RV.p (int z)) (Ik nc adh)|exact congrArg (fun z=>RV.p (int z)) (Qi nc adh gi gj adh);done)
abbrev Wx:=dT 4 Tryz.func194
theorem Bb {a b:Rx}(ha:a.size≤1099511627776)(hb:b.size≤1099511627776):au Tryz.prog 194 [rx a,rx b] (.p (bool (decide (dt a b=0)))):=by
 refine cF Wx fun w0 M0 ae=>?_
 refine db [2,0,7] [5,6] [] ?_;refine oC J J J J (rI _ _ _ ha (aaD _) hb) ?_;refine wZ [8005] ?_;rfl
abbrev Zj:=dT 2 Tryz.func93
theorem lf:∀ (m:Nat)(r:Rx),r.size≤m→m≤1099511627776→au Tryz.prog 93 [rx r] (.p (bool (aT r))):=by
 intro m
 induction m with
 | zero=>intro a hr _;have:=size_pos a;omega
 | succ m ih =>
 intro r hr hm;have hkl:=ek r;have hsl:=eJ r;rw[fy r];refine cF Zj fun w0 M0 ae=>?_
 refine pO [2,4010] [1,7] [] ?_ ?_<;>intro h1';refine wZ [8014] ?_;rotate_left;refine wS [3006] [1,11] [] ?_ ?_<;>intro h2;refine wZ [8008] ?_;rotate_left;refine wS [3011] [1,14] [] ?_ ?_<;>intro h3;refine wA [5] [1,16] [] ?_;refine oC J J J J (KL adh) ?_;refine wS [4001] [1,18] [] ?_ ?_<;>intro h4';refine wZ [2,8007] ?_;rotate_left;refine wZ [8010] ?_;rotate_left;refine wA [3] [1] [] ?_;refine ct (fun zs=>∃z:Nat,(aT r=lJ r.kids)∧zs=⟨64,[(1,vvz (wi r))],[]⟩) ?_ ?_;refine wS [4,4002] [1,28] [] ?_ ?_<;>intro h5';refine wZ [8031] ?_;rotate_left;refine wS [4004] [1,28,32] [] ?_ ?_<;>intro h6';refine wS [2,4004] [1,39] [] ?_ ?_<;>intro h7';refine wZ [8020] ?_;rotate_left;refine wS [4004] [1,39,43] [] ?_ ?_<;>intro h8';refine wS [2,3005] [1,49] [] ?_ ?_<;>intro h9;refine wZ [8008] ?_;rotate_left;refine wA [10002] [1] [] ?_;rotate_left;refine wA [10010] [1] [] ?_;rotate_left;refine wS [4011] [1,39,43] [] ?_ ?_<;>intro h10';refine wS [2,3005] [1,49] [] ?_ ?_<;>intro h11;refine wZ [8008] ?_;rotate_left;refine wA [10002] [1] [] ?_;rotate_left;refine wA [10010] [1] [] ?_;rotate_left;rintro zs ⟨z,SN,rfl⟩;refine wA [7] [1,3] [] ?_;refine lr (fun zl zo zm zs=>∃i:Nat,zm=r.kids.length-i∧(i≤r.kids.length)∧(∀j,j<i→aT (r.kids.getD j default)=true)∧zs=eV 64 [(3,vvw (int i))] zl [] zo) ?_ ?_;exact⟨_,0,rfl,aaG _,fun j hj=>absurd hj adh,rfl⟩;rintro zm zs ⟨i,rfl,aY,ax,rfl⟩;refine wS [6,3003] [1,3,54] [] ?_ ?_<;>intro h12;refine wA [10,1] [1,3,61] [] ?_;refine oC J J J J (ih _ (abI (abj (il adh) hr)) adh) ?_;refine wS [3003] [1,3,63] [] ?_ ?_<;>intro h13;refine wZ [8012] ?_;rotate_left;refine wA [6,9002] [1,3] [] ?_;exact⟨_,⟨i+1,rfl,adh,cc ax (by simp_all),rfl⟩,adh⟩;refine wZ [8012] ?_;rotate_left
 all_goals first
  | (
    first|rw[SN,GN (i:=i) adh (by simp_all)]|rw[SN,Ed (fun j hj=>ax j adh)]|(rw[fL,if_pos adh];done)|(rw[fL,if_neg adh,if_pos adh];simp_all;done)|(rw[fL,if_neg adh,if_neg adh,if_pos adh];done);done)
  | (
    exact⟨0,by rw[fL,if_neg adh,if_neg adh,if_neg adh],rfl⟩;done)
open Go.We
noncomputable def Bc (r:Rx)(w:List Int):Bool:=aT r&&pB (fl r w)
theorem Us {r:Rx}{w:List Int}(h:aT r=true):((cd (w.length+1) (rj w r)).getD 0 default).getD w.length default=Bc r w:=by rw[kK (Nat.succ_pos _),fE (Nat.lt_succ_self _)];unfold Bc rj;rw[h,abS,TQ];refine acq.2 ?_;rw[kA,kA];exact⟨fun q=>q.2,fun q=>⟨aaG _,q⟩⟩
abbrev Wy:=dT 4 Tryz.func179
theorem qf {r:Rx}{w:List Int}(hr:r.size≤1099511627776)(hw:w.length≤1099511627776):au Tryz.prog 179 [rx r,ints w] (.p (bool (Bc r w))):=by
 have hp:aT r=true→au Tryz.prog 222 [rx r,ints w] (.p (qa (cd (w.length+1) (rj w r)))):=fun hv=>by
  have h:=(Hh hw _ r (aaD _) hr hv).data na;rwa [ym] at h
 have hl1:=cM (w.length+1) (rj w r);have hl2:((cd (w.length+1) (rj w r)).getD 0 default).length=w.length+1:=by rw[kK (Nat.succ_pos _),bJ]
 refine cF Wy fun w0 M0 ae=>?_
 refine db [2,7] [1,2,5] [] ?_;refine oC J J J J (lf _ r (aaD _) hr) ?_;refine wS [3003] [1,2,7] [] ?_ ?_<;>intro h1;refine wZ [8008] ?_;rotate_left;refine wA [7] [1,8,9] [] ?_;refine oC J J J J (hp adk) ?_;refine wZ [0,2,0,8005] ?_;rotate_left
 all_goals
  first
   | (rw[show Bc r w=false from by unfold Bc;simp_all];first|done|rfl)
   | (rw[←Us adk];first|done|rfl)
end Go.Proofs.YtlapahnodhmcpaaGreat
namespace Go.Wb
open Go.Am Go.We
theorem Q2 (v:List Int):Dv dO v=dO:=by
 have h:∀b,dR b dO=dO:=fun b=>by rw[uK adj (fun e=>absurd e adj),Cn adj adj,k8]
 induction v with
 | nil=>rfl
 | cons b v ih=>show Dv (dR b dO) v=_;rw[h,ih]
end Go.Wb
namespace Go.Proofs.YtlapahnodhmcpaaGreat
open Go.Am Go.Wb Go.We
theorem qg (r:Rx)(w:List Int):sd r w=Bc r w:=by
 unfold Bc;by_cases h:aT r=true
 ·rw[h,abS];exact acq.2 ((lY h w).trans kA.symm)
 ·rw[yk,show dw r=dO from if_neg h,Q2,show aT r=false by simpa using h];rfl
end Go.Proofs.YtlapahnodhmcpaaGreat
namespace Go.Wf
open Go.Am Go.Wb Go.Wc Go.We
structure eS where
 src:Int
 dst:List Int
 deriving Inhabited,DecidableEq
def yB (p:eS):AV:=.agg [int p.src,ints p.dst]
structure aG where
 name:List UInt8
 pairs:List eS
 left:Rx
 right:Rx
 deriving Inhabited
def IU (r:aG):List AV:=[ak r.name,.sl (r.pairs.map yB),int r.left.kind,ints r.left.syms,.sl (Rx.gv r.left.kids),int r.right.kind,ints r.right.syms,.sl (Rx.gv r.right.kids)]
def aZ (r:aG):AV:=.agg (IU r)
def KM (x:Int):Bool:=(decide (0≤x)&&decide (x<60))||decide (x=63)
def fP (w:List Int):Bool:=w.all KM
def jA (p:eS):Bool:=KM p.src&&decide (p.dst.length≤3)&&fP p.dst
def bK (r:aG):Bool:=decide (r.pairs.length≤60)&&aT r.left&&aT r.right&&r.pairs.all jA&&decide ((r.pairs.map (·.src)).Nodup)
def ly (l:List eS)(x:Int):Option eS:=l.find? fun p=>decide (p.src=x)
theorem Hi {x:Int}(h:KM x=true):0≤x∧x<64:=by unfold KM at h;rw[abC,aaZ,decide_eq_true_eq,decide_eq_true_eq,decide_eq_true_eq] at h;omega
def anyS:List Int:=(List.range 64).map fun i:Nat=>(i:Int)
def jL:Rx:=.mk 5 [] [.mk 2 anyS []]
theorem IV {x:Int}:x∈anyS↔0≤x∧x<64:=by
 unfold anyS;rw[aa7];constructor
 ·rintro⟨i,hi,rfl⟩;have:=aba.1 hi;omega
 ·rintro⟨h0,h1⟩;exact⟨x.toNat,aba.2 adh,adh⟩
theorem KN:aT jL=true:=by decide +kernel
theorem Oq:jL.size≤70:=by decide +kernel
theorem Q3 (w:List Int):fl jL w↔∀x∈w,0≤x∧x<64:=by
 rw[vJ rfl];show Eu [_] w↔_;rw[mq];constructor
 · intro h
   induction h with
   | nil=>intro x hx;cases hx
   | @cons u v h1 _ ih =>
     intro x hx;rcases abl.1 hx with hx|hx
     · obtain ⟨a, rfl, ha⟩ := (nW rfl u).1 h1
       rw[aaY.1 hx];exact IV.1 ha
     · exact ih x hx
 · intro h
   induction w with
   | nil=>exact .nil
   | cons a w ih=>exact .cons (u:=[a]) ((nW rfl [a]).2 ⟨a,rfl,IV.2 (h a aaJ)⟩) (ih fun x hx=>h x (aaW _ hx))
def fQ (r:Rx):Rx:=.mk 3 [] [jL,r]
variable{r:Rx}
theorem KO (h:aT r=true):aT (fQ r)=true:=by rw[lV (r:=fQ r) (.inl rfl)];show(_&&_)=true;show(decide (([]:List Int).length=0)&&!([jL,r].any fun x=>!aT x))=true;simp[KN,h]
theorem Q4 {w:List Int}(hw:∀x∈w,0≤x∧x<64):fl (fQ r) w↔∃k,k≤w.length∧fl r (w.drop k):=by
 rw[vI rfl];show kc [jL,r] w↔_;rw[ea];constructor
 ·rintro⟨u,v,rfl,_,hv⟩;rw[jb] at hv;exact⟨u.length,by simp,by rw[List.drop_left];exact hv⟩
 ·rintro⟨k,hk,h⟩;exact⟨w.take k,w.drop k,(abU k w).symm,(Q3 _).2 fun x hx=>hw x (abO hx),(jb _ _).2 h⟩
def atR (r:Rx)(v:List Int):Rx:=Dv (dw (fQ r)) v
theorem Ot (r:Rx)(v:List Int):Nf (atR r v):=AW (qS _) v
theorem EY (r:Rx)(v:List Int)(x:Int):atR r (v++[x])=dR x (atR r v):=qT _ v x
theorem IW (hr:aT r=true){v:List Int}(hv:∀x∈v,0≤x∧x<64):cT (atR r v)=true↔∃k,k≤v.length∧fl r (v.drop k):=by have h:=lY (KO hr) v;rw[yk] at h;exact h.trans (Q4 hv)
def vO (r:Rx)(w:List Int)(i:Nat):Bool:=cT (atR r (62 :: w.take i))
def o3 (r:Rx)(w:List Int)(i:Nat):Bool:=cT (atR (eB r) (62 :: (w.drop (i+1)).reverse))
def bp (r:aG)(w:List Int):List Int:=if bK r&&fP w then
   (List.range w.length).flatMap fun i=>match ly r.pairs (w.getD i default) with
     | some p=>if vO r.left w i&&o3 r.right w i then p.dst else[w.getD i default]
     | none=>[w.getD i default]
 else w
end Go.Wf
namespace Go.Proofs.YtlapahnodhmcpaaGreat
open Go.Am Go.Wb Go.Wc Go.We Go.Wf
noncomputable def IX (r:Rx)(w:List Int)(i:Nat):Bool:=(List.range ((62 :: w.take i).length+1)).any fun k=>Bc r ((62 :: w.take i).drop k)
noncomputable def CI (r:Rx)(w:List Int)(i:Nat):Bool:=(List.range ((w.drop (i+1)++[62]).length+1)).any fun k=>Bc r ((w.drop (i+1)++[62]).take k)
noncomputable def uW (r:aG)(w:List Int):List Int:=if bK r&&fP w then
  (List.range w.length).flatMap fun i => match ly r.pairs (w.getD i default) with
   | some p=>if IX r.left w i&&CI r.right w i then p.dst else[w.getD i default]
   | none=>[w.getD i default]
 else w
variable{r:Rx}
theorem left_eq (hr:aT r=true){w:List Int}(hw:fP w=true)(i:Nat):vO r w i=IX r w i:=by
 have hv:∀x∈62 :: w.take i,0≤x∧x<64:=fun x hx=>by
  rcases aa3.1 hx with rfl|hx
  ·decide
  ·exact Hi (aa5.1 hw x (abO hx))
 refine acq.2 ((IW hr hv).trans ?_);unfold IX;rw[abk];constructor
 ·rintro⟨k,hk,h⟩;exact⟨k,aba.2 adh,by rw[←qg];exact(lY hr _).2 h⟩
 ·rintro⟨k,hk,h⟩;rw[←qg] at h;exact⟨k,by have:=aba.1 hk;omega,(lY hr _).1 h⟩
theorem IY (hr:aT r=true)(w:List Int):fl (eB r) w↔fl r w.reverse:=by unfold eB;rw[if_pos hr];exact(AY r hr).2 w
theorem Ou (hr:aT r=true){w:List Int}(hw:fP w=true)(i:Nat):o3 r w i=CI r w i:=by
 have hv:∀x∈62 :: (w.drop (i+1)).reverse,0≤x∧x<64:=fun x hx=>by
  rcases aa3.1 hx with rfl|hx
  ·decide
  ·exact Hi (aa5.1 hw x (abp (acH.1 hx)))
 have hrv:aT (eB r)=true:=nT (Qo r);have e:(62 :: (w.drop (i+1)).reverse)=(w.drop (i+1)++[62]).reverse:=by simp
 refine acq.2 ((IW hrv hv).trans ?_);unfold CI;rw[abk,e];generalize w.drop (i+1)++[62]=t;constructor
 ·rintro⟨k,hk,h⟩;rw[IY hr,List.drop_reverse,ab7] at h;exact⟨t.length-k,aba.2 adh,by rw[←qg];exact(lY hr _).2 h⟩
 ·rintro⟨k,hk,h⟩;rw[←qg] at h;have hk:=aba.1 hk;refine⟨t.length-k,by rw[abh];omega,?_⟩;rw[IY hr,List.drop_reverse,ab7,show t.length-(t.length-k)=k by omega];exact(lY hr _).1 h
theorem EZ (r:aG)(w:List Int):bp r w=uW r w:=by
 unfold bp uW;split
 ·next h =>
  rw[aaZ] at h;have h1:=h.1;unfold bK at h1;simp only[aaZ] at h1
  congr 1
  funext i
  rw[left_eq h1.1.1.1.2 h.2,Ou h1.1.1.2 h.2]
 ·rfl
end Go.Proofs.YtlapahnodhmcpaaGreat
namespace Go.Wf
open Go.Am Go.Wb Go.Wc Go.RowKit Go.ChangeMaps Go.MapKept
abbrev ny (x:Int):Value:=.int .i64 x
noncomputable def oV (l:List eS):Nat→List Value
 | 0=>[]
 | i+1=>Go.Am.fZ (oV l i) (ny (l.getD i default).src)
noncomputable def Ut (l:List eS):Nat→List AV
 | 0=>[]
 | i+1=>Go.Am.JO (oV l i) (Ut l i) (ny (l.getD i default).src) (ints (l.getD i default).dst)
theorem tz {x y:Int}:ny x=ny y↔x=y:=by simp[ny]
theorem uX (l:List eS):∀i,∀u∈oV l i,IsKey (.int .i64) u
 | 0,u,h=>by cases h
 | i + 1, u, h => by
   unfold oV Go.Am.fZ at h;split at h
   · exact uX l i u h
   · rw [abl] at h
     rcases h with h|h
     · exact uX l i u h
     · simp only[aaY] at h;subst h;rfl
theorem IZ (l:List eS):∀i,(oV l i).length≤i
 | 0=>aaD _
 | i + 1 => by
   have:=IZ l i;unfold oV Go.Am.fZ;split
   · omega
   · simp;omega
theorem tA {l:List eS}:∀{i:Nat},i≤l.length→(oV l i).length=i→oV l i=(l.take i).map (fun p=>ny p.src)∧Ut l i=(l.take i).map (fun p=>ints p.dst)∧((l.take i).map (·.src)).Nodup
 | 0,_,_=>⟨rfl,rfl,List.nodup_nil⟩
 | i + 1, hi, h => by
   have hl:=IZ l i;unfold oV Go.Am.fZ at h;unfold oV Ut Go.Am.fZ Go.Am.JO;cases hp:dU (oV l i) (ny (l.getD i default).src) with
   | some j=>rw[hp] at h;simp only[] at h;omega
   | none =>
     rw[hp] at h;simp only[aaM,abD] at h;obtain⟨h1,h2,h3⟩:=tA (by omega:i≤l.length) adh;refine⟨by rw[h1,take_succ adh,aaK];rfl,by rw[h2,take_succ adh,aaK];rfl,?_⟩;rw[take_succ adh,aaK];have hn:=Ak.1 hp;rw[h1] at hn;refine List.nodup_append.2 ⟨h3,List.nodup_cons.2 ⟨acX,List.nodup_nil⟩,fun a ha b hb e=>hn ?_⟩;obtain⟨p,hp',rfl⟩:=aa7.1 ha;exact aa7.2 ⟨p,hp',by rw[tz,e,aaY.1 hb]⟩
theorem Ov {l:List eS}:∀{i:Nat},i≤l.length→((l.take i).map (·.src)).Nodup→(oV l i).length=i
 | 0,_,_=>rfl
 | i + 1, hi, h => by
   rw[take_succ adh,aaK] at h;obtain⟨h1,_,h3⟩:=List.nodup_append.1 h;have ih:=Ov (by omega:i≤l.length) h1;obtain⟨g1,_,_⟩:=tA (by omega:i≤l.length) ih;unfold oV Go.Am.fZ;cases hp:dU (oV l i) (ny (l.getD i default).src) with
   | none=>simp;omega
   | some j =>
     have hm:=abm (eX hp);rw[g1,aa7] at hm;obtain⟨x,hx,he⟩:=hm;exact absurd (tz.1 he) (h3 x.src (aa7.2 ⟨x,hx,rfl⟩) (l.getD i default).src (by simp))
theorem Bd (l:List eS):decide ((oV l l.length).length=l.length)=decide ((l.map (·.src)).Nodup):=by
 refine decide_eq_decide.2 ⟨fun h=>?_,fun h=>?_⟩
 ·have:=(tA (aaD _) h).2.2;rwa [abK] at this
 ·exact Ov (aaD _) (by rw[abK];exact h)
def jo (r:aG):Bool:=decide (r.pairs.length≤60)&&aT r.left&&aT r.right&&r.pairs.all jA
theorem uY (r:aG):bK r=(jo r&&decide ((r.pairs.map (·.src)).Nodup)):=rfl
noncomputable def Uu (r:aG):AV:=if jo r=true then .mp (oV r.pairs r.pairs.length) (Ut r.pairs r.pairs.length) else .sc (.map none)
variable{r:aG}
theorem SO (h:jo r=false):Uu r=.sc (.map none)∧bK r=false:=⟨if_neg (by rw[h];decide),by rw[uY,h];rfl⟩
theorem Hj (h:jo r=true):Uu r=.mp (oV r.pairs r.pairs.length) (Ut r.pairs r.pairs.length)∧bK r=decide ((oV r.pairs r.pairs.length).length=r.pairs.length):=⟨if_pos h,by rw[uY,h,Bd,abS]⟩
theorem Wz (h:bK r=true):Uu r=.mp (r.pairs.map fun p=>ny p.src) (r.pairs.map fun p=>ints p.dst):=by
 rw[uY,aaZ] at h;rw[(Hj h.1).1];have h2:(oV r.pairs r.pairs.length).length=r.pairs.length:=by
  have:=Bd r.pairs;rw[h.2] at this;exact of_decide_eq_true this
 obtain⟨g1,g2,_⟩:=tA (aaD _) h2;rw[g1,g2,abK]
variable{α:Type}{l:List α}{i:Nat}
theorem cU  [Inhabited α](h:i<l.length):l.getD i default=l[i]:=by rw[aax,aaF h];rfl
theorem aO  [Inhabited α](h:i<l.length):l.getD i default∈l:=by rw[cU h];exact abV h
theorem Hk (w:List Int):(!w.any fun x=>!KM x)=fP w:=by unfold fP;rw[List.not_any_eq_all_not];simp
theorem Be  [Inhabited α]{p:α→Bool}(hi:i<l.length)(h:p (l.getD i default)=false):l.all p=false:=by rw[List.all_eq_false];exact⟨_,aO hi,by rw[h];decide⟩
theorem uZ  [Inhabited α]{p:α→Bool}(h:∀j,j<l.length→p (l.getD j default)=true):l.all p=true:=by rw[aa5];intro x hx;obtain⟨j,hj,rfl⟩:=acW.1 hx;have:=h j hj;rwa [aax,aaF hj] at this
end Go.Wf
namespace Go.Proofs.YtlapahnodhmcpaaGreat
open Go.Am Go.Wb Go.Wc Go.Wf
abbrev Zk:=dT 4 Tryz.func84
variable{g:FuncId}
theorem Bf {l:List Int}{p:Int→Bool}{caps:List AV}(hl:l.length≤1099511627776)(hf:∀x∈l,au Tryz.prog g ([int x]++caps) (.p (bool (p x)))):au Tryz.prog 84 [ints l,.clo g caps] (.p (int (eK p l))):=by
 refine cF Zk fun w0 M0 ae=>?_
 refine db [9,4] [0,1,7,8] [] ?_;refine lr (fun zl zo zm zs=>∃k:Nat,zm=l.length-k∧(k≤l.length)∧(∀j,j<k→p (l.getD j default)=false)∧zs=eV 19 [(7,vvw (int l.length)),(8,vvw (int k))] zl [] zo) ?_ ?_;exact⟨_,0,rfl,aaG _,fun j hj=>absurd hj adh,rfl⟩;rintro zm zs ⟨k,rfl,aY,ax,rfl⟩;refine wS [3006] [0,1,7,8,9] [] ?_ ?_<;>intro h1;refine wA [16,1] [0,1,5,7,8,11,15] [] ?_;refine oC J J J J (hf _ (aO adh)) ?_;refine wS [3002] [0,1,5,7,8,16] [] ?_ ?_<;>intro h2;refine wZ [8013] ?_;rw[←nJ (p:=p) (l:=l) (k:=k) adh ax (by simp_all)];refine wA [5,9002] [0,1,7,8] [] ?_;exact⟨_,⟨k+1,rfl,adh,cc ax (by simp_all),rfl⟩,adh⟩;refine wZ [8012] ?_;rw[←lU (p:=p) (l:=l) (fun j hj=>ax j adh)]
abbrev WA:=dT 4 Tryz.func208
theorem Bg {l:List Int}{p:Int→Bool}{caps:List AV}(hl:l.length≤1099511627776)(hf:∀x∈l,au Tryz.prog g ([int x]++caps) (.p (bool (p x)))):au Tryz.prog 208 [ints l,.clo g caps] (.p (bool (l.any p))):=by
 refine cF WA fun w0 M0 ae=>?_
 refine db [9] [5,6] [] ?_;refine oC J J J J (Bf hl hf) ?_;refine wZ [8005] ?_;rw[wH]
abbrev WB:=dT 2 Tryz.func169
variable{x:Int}
theorem vP :au Tryz.prog 169 [int x] (.p (bool (KM x))):=by
 refine cF WB fun w0 M0 ae=>?_
 refine pO [4010] [0,5] [] ?_ ?_<;>intro h1';refine wS [4004] [0,9] [] ?_ ?_<;>intro h2';refine wZ [8007] ?_;rotate_left;refine wZ [8007] ?_;rotate_left;refine wZ [8011] ?_;rotate_left
 all_goals
  unfold KM;simp_all;try omega
abbrev WC:=dT 2 Tryz.func220
theorem tB :au Tryz.prog 220 [int x] (.p (bool (KM x))):=by
 refine cF WC fun w0 M0 ae=>?_
 refine pO [4010] [0,5] [] ?_ ?_<;>intro h1';refine wS [4004] [0,9] [] ?_ ?_<;>intro h2';refine wZ [8007] ?_;rotate_left;refine wZ [8007] ?_;rotate_left;refine wZ [8011] ?_;rotate_left
 all_goals
  unfold KM;simp_all;try omega
abbrev WD:=dT 2 Tryz.func226
theorem Hl :au Tryz.prog 226 [int x] (.p (bool (!KM x))):=by
 refine cF WD fun w0 M0 ae=>?_
 refine db [8] [3] [] ?_;refine oC J J J J (vP) ?_;refine wZ [8005] ?_;rfl
abbrev WE:=dT 2 Tryz.func184
theorem vQ {w:List Int}(hw:w.length≤1099511627776):au Tryz.prog 184 [ints w] (.p (bool (fP w))):=by
 refine cF WE fun w0 M0 ae=>?_
 refine db [8] [3] [] ?_;refine oC J J J J (Bg (p:=fun x=>!KM x) adh (fun x hx=>Hl)) ?_;refine wZ [8005] ?_;rw[Hk]
abbrev WG:=dT 2 Tryz.func221
theorem tC {w:List Int}(hw:w.length≤1099511627776):au Tryz.prog 221 [ints w] (.p (bool (fP w))):=by
 refine cF WG fun w0 M0 ae=>?_
 refine db [12] [0,3] [] ?_;refine lr (fun zl zo zm zs=>∃i:Nat,zm=w.length-i∧(i≤w.length)∧(∀j,j<i→KM (w.getD j default)=true)∧zs=eV 16 [(3,vvw (int i))] zl [] zo) ?_ ?_;exact⟨_,0,rfl,aaG _,fun j hj=>absurd hj adh,rfl⟩;rintro zm zs ⟨i,rfl,aY,ax,rfl⟩;refine wS [5,3003] [0,3,7] [] ?_ ?_<;>intro h1;refine wA [9,1] [0,3,13] [] ?_;refine oC J J J J (tB) ?_;refine wS [3003] [0,3,15] [] ?_ ?_<;>intro h2;refine wZ [8012] ?_;rotate_left;refine wA [6,9002] [0,3] [] ?_;exact⟨_,⟨i+1,rfl,adh,cc ax (by simp_all),rfl⟩,adh⟩;refine wZ [8012] ?_;rotate_left
 all_goals
  show _=RV.p (Am.bool (w.all KM));first|(rw[Be (i:=i) adh (by simp_all)];done)|(rw[uZ (fun j hj=>ax j adh)];done)
abbrev WH:=dT 4 Tryz.func232
theorem KP {l:List Rx}{p:Rx→Bool}(hl:l.length≤1099511627776)(hf:∀x∈l,au Tryz.prog g [rx x] (.p (bool (p x)))):au Tryz.prog 232 [jM l,.clo g []] (.p (int (eK p l))):=by
 refine cF WH fun w0 M0 ae=>?_
 refine db [9,4] [0,1,7,8] [] ?_;refine lr (fun zl zo zm zs=>∃k:Nat,zm=l.length-k∧(k≤l.length)∧(∀j,j<k→p (l.getD j default)=false)∧zs=eV 19 [(7,vvw (int l.length)),(8,vvw (int k))] zl [] zo) ?_ ?_;exact⟨_,0,rfl,aaG _,fun j hj=>absurd hj adh,rfl⟩;rintro zm zs ⟨k,rfl,aY,ax,rfl⟩;refine wS [3006] [0,1,7,8,9] [] ?_ ?_<;>intro h1;refine wA [16,1] [0,1,5,7,8,11,15] [] ?_;refine oC J J J J (hf _ (aS adh)) ?_;refine wS [3002] [0,1,5,7,8,16] [] ?_ ?_<;>intro h2;refine wZ [8013] ?_;rw[←nJ (p:=p) (l:=l) (k:=k) adh ax (by simp_all)];refine wA [5,9002] [0,1,7,8] [] ?_;exact⟨_,⟨k+1,rfl,adh,cc ax (by simp_all),rfl⟩,adh⟩;refine wZ [8012] ?_;rw[←lU (p:=p) (l:=l) (fun j hj=>ax j adh)]
abbrev WI:=dT 4 Tryz.func198
theorem gP {l:List Rx}{p:Rx→Bool}(hl:l.length≤1099511627776)(hf:∀x∈l,au Tryz.prog g [rx x] (.p (bool (p x)))):au Tryz.prog 198 [jM l,.clo g []] (.p (bool (l.any p))):=by
 refine cF WI fun w0 M0 ae=>?_
 refine db [9] [5,6] [] ?_;refine oC J J J J (KP hl hf) ?_;refine wZ [8005] ?_;rw[wH]
abbrev WJ:=dT 2 Tryz.func135
theorem KQ:∀ (m:Nat)(r:Rx),r.size≤m→m≤1099511627776→au Tryz.prog 135 [rx r] (.p (bool (cT r))):=by
 intro m
 induction m with
 | zero=>intro a hr _;have:=size_pos a;omega
 | succ m ih =>
 intro r hr hm;have hkl:=ek r;rw[fy r];refine cF WJ fun w0 M0 ae=>?_
 refine pO [2,3011] [1,7] [] ?_ ?_<;>intro h1;refine wA [8] [1,3] [] ?_;refine lr (fun zl zo zm zs=>∃i:Nat,zm=r.kids.length-i∧(i≤r.kids.length)∧(∀j,j<i→cT (r.kids.getD j default)=true)∧zs=eV 46 [(3,vvw (int i))] zl [] zo) ?_ ?_;exact⟨_,0,rfl,aaG _,fun j hj=>absurd hj adh,rfl⟩;rintro zm zs ⟨i,rfl,aY,ax,rfl⟩;refine wS [6,3003] [1,3,12] [] ?_ ?_<;>intro h2;refine wA [10,1] [1,3,19] [] ?_;refine oC J J J J (ih _ (abI (abj (il adh) hr)) adh) ?_;refine wS [3003] [1,3,21] [] ?_ ?_<;>intro h3;refine wZ [8013] ?_;rotate_left;refine wA [6,9002] [1,3] [] ?_;exact⟨_,⟨i+1,rfl,adh,cc ax (by simp_all),rfl⟩,adh⟩;refine wZ [8013] ?_;rotate_left;refine wS [3011] [1,24] [] ?_ ?_<;>intro h4;refine wA [8] [1,4] [] ?_;refine lr (fun zl zo zm zs=>∃i:Nat,zm=r.kids.length-i∧(i≤r.kids.length)∧(∀j,j<i→cT (r.kids.getD j default)=false)∧zs=eV 46 [(4,vvw (int i))] zl [] zo) ?_ ?_;exact⟨_,0,rfl,aaG _,fun j hj=>absurd hj adh,rfl⟩;rintro zm zs ⟨i,rfl,gi,gj,rfl⟩;refine wS [6,3003] [1,4,29] [] ?_ ?_<;>intro h5;refine wA [10,1] [1,4,36] [] ?_;refine oC J J J J (ih _ (abI (abj (il adh) hr)) adh) ?_;refine wS [3002] [1,4,37] [] ?_ ?_<;>intro h6;refine wZ [8013] ?_;rotate_left;refine wA [6,9002] [1,4] [] ?_;exact⟨_,⟨i+1,rfl,adh,cc gj (by simp_all),rfl⟩,adh⟩;refine wZ [8013] ?_;rotate_left;refine wS [4009] [1,41] [] ?_ ?_<;>intro h7';refine wZ [8008] ?_;rotate_left;refine wZ [8008] ?_;rotate_left
 all_goals
  rw[qH];first|rw[if_pos adh,TC (i:=i) adh (by simp_all)]|rw[if_pos adh,Qj (fun j hj=>ax j adh)]|rw[if_neg adh,if_pos adh,Il (i:=i) adh (by simp_all)]|rw[if_neg adh,if_pos adh,Ce (fun j hj=>gj j adh)]|(rw[if_neg adh,if_neg adh];simp_all;done)
abbrev WK:=dT 2 Tryz.func199
theorem nd {x:Rx}(h:au Tryz.prog 143 [rx x] (.p (bool (aT x)))):au Tryz.prog 199 [rx x] (.p (bool (!aT x))):=by
 refine cF WK fun w0 M0 ae=>?_
 refine db [2,6] [3] [] ?_;refine oC J J J J (h) ?_;refine wZ [8005] ?_;rfl
abbrev SP:=dT 2 Tryz.func143
theorem mA:∀ (m:Nat)(r:Rx),r.size≤m→m≤1099511627776→au Tryz.prog 143 [rx r] (.p (bool (aT r))):=by
 intro m
 induction m with
 | zero=>intro a hr _;have:=size_pos a;omega
 | succ m ih =>
 intro r hr hm;have hkl:=ek r;have hsl:=eJ r;rw[fy r];refine cF SP fun w0 M0 ae=>?_
 refine pO [2,3018] [1,4,5] [] ?_ ?_<;>intro h1;refine wS [8,4002] [1,12] [] ?_ ?_<;>intro h2';refine wZ [2,8008] ?_;rotate_left;refine wZ [8011] ?_;rotate_left;refine wS [3006] [1,4,5] [] ?_ ?_<;>intro h3;refine wS [5,4002] [1,12] [] ?_ ?_<;>intro h4';refine wZ [2,8008] ?_;rotate_left;refine wZ [8011] ?_;rotate_left;refine wS [3007] [1,4,18] [] ?_ ?_<;>intro h5;refine wS [5,4002] [1,24] [] ?_ ?_<;>intro h6';refine wA [2] [24,26] [] ?_;refine oC J J J J (EX adh) ?_;refine wZ [8007] ?_;rotate_left;refine wZ [8010] ?_;rotate_left;refine wS [3007] [1,4,29] [] ?_ ?_<;>intro h7;refine wS [5,4002] [1,35] [] ?_ ?_<;>intro h8';refine wS [2,4003] [1,41] [] ?_ ?_<;>intro h9';refine wA [2,1] [41,45] [] ?_;refine oC J J J J (ih _ (abI (abj (il adh) hr)) adh) ?_;refine wZ [8007] ?_;rotate_left;refine wZ [8012] ?_;rotate_left;refine wZ [8018] ?_;rotate_left;refine wS [3008] [1,4,48] [] ?_ ?_<;>intro h10;refine wS [8,4002] [1,55] [] ?_ ?_<;>intro h11';refine wA [2] [55,57] [] ?_;refine oC J J J J (gP (p:=fun x=>!aT x) adh (fun x hx=>nd (ih _ (abI (abj (dp hx) hr)) adh))) ?_;refine wZ [8008] ?_;rotate_left;refine wZ [8011] ?_;rotate_left;refine wS [3006] [1,48] [] ?_ ?_<;>intro h12;refine wS [5,4002] [1,55] [] ?_ ?_<;>intro h13';refine wA [2] [55,57] [] ?_;refine oC J J J J (gP (p:=fun x=>!aT x) adh (fun x hx=>nd (ih _ (abI (abj (dp hx) hr)) adh))) ?_;refine wZ [8008] ?_;rotate_left;refine wZ [8011] ?_;rotate_left;refine wZ [8010] ?_;rotate_left
 all_goals
  first|(rw[jG (r:=r) adh];simp_all;done)|(rw[mh (r:=r) adh];simp_all;done)|(rw[ja (r:=r) adh,decide_eq_true (p:=r.syms.length=0) adh,decide_eq_true (p:=r.kids.length=1) adh];first|rfl|(simp_all;done))|(rw[ja (r:=r) adh,decide_eq_false (p:=r.kids.length=1) adh,ab1,ab5];first|done|rfl|(simp_all;done))|(rw[ja (r:=r) adh,decide_eq_false (p:=r.syms.length=0) adh,ab1];first|done|rfl|(simp_all;done))|(rw[lV (r:=r) adh];simp_all;done)|(rw[ux (r:=r) adh];done)
abbrev WL:=dT 2 Tryz.func238
theorem vR {x:Rx}(h:au Tryz.prog 203 [rx x] (.p (bool (cT x)))):au Tryz.prog 238 [rx x] (.p (bool (!cT x))):=by
 refine cF WL fun w0 M0 ae=>?_
 refine db [2,6] [3] [] ?_;refine oC J J J J (h) ?_;refine wZ [8005] ?_;rfl
abbrev SQ:=dT 2 Tryz.func203
theorem Hm:∀ (m:Nat)(r:Rx),r.size≤m→m≤1099511627776→au Tryz.prog 203 [rx r] (.p (bool (cT r))):=by
 intro m
 induction m with
 | zero=>intro a hr _;have:=size_pos a;omega
 | succ m ih =>
 intro r hr hm;have hkl:=ek r;have hsl:=eJ r;rw[fy r];refine cF SQ fun w0 M0 ae=>?_
 refine pO [2,3018] [1,4,5] [] ?_ ?_<;>intro h1;refine wZ [8012] ?_;rotate_left;refine wS [3006] [1,4,5] [] ?_ ?_<;>intro h2;refine wZ [8009] ?_;rotate_left;refine wS [3007] [1,4,8] [] ?_ ?_<;>intro h3;refine wA [5] [11] [] ?_;refine oC J J J J (gP (p:=fun x=>!cT x) adh (fun x hx=>vR (ih _ (abI (abj (dp hx) hr)) adh))) ?_;refine wZ [8007] ?_;rotate_left;refine wS [3007] [1,14] [] ?_ ?_<;>intro h4;refine wA [5] [17] [] ?_;refine oC J J J J (gP (p:=cT) adh (fun x hx=>(ih _ (abI (abj (dp hx) hr)) adh))) ?_;refine wZ [8006] ?_;rotate_left;refine wZ [8010] ?_;rotate_left
 all_goals
  rw[qH];first|(rw[if_pos adh,pQ];done)|(rw[if_neg adh,if_pos adh];done)|(rw[if_neg adh,if_neg adh];simp_all;done)|(rw[if_neg adh,if_neg adh,decide_eq_false adh];done)
abbrev WM:=dT 2 Tryz.func152
end Go.Proofs.YtlapahnodhmcpaaGreat
