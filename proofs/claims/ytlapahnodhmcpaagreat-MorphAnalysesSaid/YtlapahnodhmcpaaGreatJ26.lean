/-
  Part of the proof.
-/
import Derived.Test.YtlapahnodhmcpaaGreatJ0
import Derived.Test.YtlapahnodhmcpaaGreatJ16
import Derived.Test.YtlapahnodhmcpaaGreatJ25
import Derived.Test.YtlapahnodhmcpaaGreatJ24
import Derived.Test.YtlapahnodhmcpaaGreatJ17
import Derived.Test.YtlapahnodhmcpaaGreatJ19
import Derived.Test.YtlapahnodhmcpaaGreatJ20
import Derived.Test.YtlapahnodhmcpaaGreatJ13
import Derived.Test.YtlapahnodhmcpaaGreatJ8
import Derived.Test.YtlapahnodhmcpaaGreatJ9
set_option linter.unusedVariables false
set_option linter.unusedSectionVars false
set_option linter.unusedSimpArgs false
set_option maxRecDepth 100000
set_option maxHeartbeats 40000000
namespace Go.Wf
open Go.Am Go.Wb
def vQ (f:Nat→Bool)(n:Nat):Bool:=(List.range n).any f
theorem Ax (f:Nat→Bool)(n:Nat):vQ f (n+1)=(vQ f n||f n):=by
 unfold vQ;rw[aaP,ab8];simp
end Go.Wf
namespace Go.Proofs.YtlapahnodhmcpaaGreat
open Go.Am Go.Wb Go.Wc Go.Wf Go.We
noncomputable def vR (r:aG)(w:List Int)(i:Nat):Bool:=decide (0≤eB (fun p:eH=>decide (p.src=w.getD i default)) r.pairs)&&(HR r.left w i&&BX r.right w i)
theorem Nt {r:aG}{w:List Int}{i:Nat}(h:eB (fun p:eH=>decide (p.src=w.getD i default)) r.pairs<0):vR r w i=false:=by
 unfold vR;rw[decide_eq_false ace,abc]
theorem P5 {r:aG}{w:List Int}{i:Nat}(h:¬eB (fun p:eH=>decide (p.src=w.getD i default)) r.pairs<0) :
  vR r w i=(vQ (fun k=>Aq r.left ((62 :: w.take i).drop k)) ((62 :: w.take i).length+1)&&vQ (fun k=>Aq r.right ((w.drop (i+1)++[62]).take k)) ((w.drop (i+1)++[62]).length+1)):=by
 unfold vR;rw[decide_eq_true ace,aaZ];rfl
abbrev Vj:=dU 6 Tryz.func223
theorem y5 {r:aG}{w:List Int}{i:Nat}(hi:i<w.length)(hw:w.length≤1048576)(hl:r.pairs.length≤1099511627776)(h1r:r.left.size≤1099511627776)(h2r:r.right.size≤1099511627776):aq Tryz.prog 223 [bm r,ints w,int i] (.p (bool (vR r w i))):=by
 have hA:(62 :: w.take i).length=i+1:=by rw[Z2,aaa];omega
 have hB:(w.drop (i+1)++[62]).length=w.length-i:=by rw[aab,aad];show w.length-(i+1)+1=_;omega
 refine cF Vj fun w0 M0 aa=>?_
 refine c6 [2,2005,6003,1] [1,2,3,13,17] [] ?_
 refine oE J J J J J J (x4 hl) ?_
 refine wS [3003] [1,2,3,19] [] ?_ ?_<;>intro h1
 refine wZ [8008] ?_;rotate_left
 refine wZ [1005,2,1000,1005,7,5000] ?_
 refine oP J (na J Tryz.underlying22 y3 J J ace (fun _=>rfl)) ?_
 refine wA [1000,6,1000,4] [3,7,8] [8,20] ?_
 refine aS 68 [(3,_),(7,_),(8,_)] [] aa J ⟨.inl J,.inr ⟨_,_,rfl,rfl,rfl⟩,.inr ⟨_,_,rfl,rfl,rfl⟩,trivial⟩ trivial ?_
 refine gS [11] [3,7,8,9,10] [] ?_
 refine lp (fun zm zs=>∃k:Nat,zm=(62 :: w.take i).length+2-k∧(k≤(62 :: w.take i).length+1)∧zs=⟨68,[(3,vvz (D2 r)),(7,vvw (ints (62 :: w.take i))),(8,vvw (ints (w.drop (i+1)++[62]:List Int))),(9,vvw (bool (vQ (fun k=>Aq r.left ((62 :: w.take i).drop k)) k))),(10,vvw (int k))],[]⟩) ?_ ?_
 have e1:ints (w.drop (i+1)++[62])=.sl ([]++List.map int (w.drop (i+1))++[int 62]):=by show AV.sl (List.map int (_++_))=_;rw[Z8];rfl
 exact⟨_,0,rfl,Z5 _,by rw[e1];rfl⟩
 rintro zm zs ⟨k,rfl,aZ,rfl⟩
 refine wS [5,3003] [3,7,8,9,10,37] [] ?_ ?_<;>intro h2
 refine wS [2005,7002] [3,7,8,10,41] [] ?_ ?_<;>intro h3'
 refine wA [13,9002] [3,7,8,9,10] [] ?_;rotate_left
 refine wZ [6004,5000] ?_
 refine oE J J J J J J (pT (w:=(62 :: w.take i).drop k) h1r (by rw[aad];omega)) ?_
 refine wA [7,9002] [3,7,8,9,10] [] ?_;rotate_left
 refine wA [18] [3,8,9,11,12] [] ?_
 obtain rfl:k=(62 :: w.take i).length+1:=ace
 refine lp (fun zm zs=>∃k:Nat,zm=(w.drop (i+1)++[62]:List Int).length+2-k∧(k≤(w.drop (i+1)++[62]:List Int).length+1)∧zs=⟨68,[(3,vvz (D2 r)),(8,vvw (ints (w.drop (i+1)++[62]:List Int))),(9,vvw (bool (vQ (fun k=>Aq r.left ((62 :: w.take i).drop k)) ((62 :: w.take i).length+1)))),(11,vvw (bool (vQ (fun k=>Aq r.right ((w.drop (i+1)++[62]:List Int).take k)) k))),(12,vvw (int k))],[]⟩) ?_ ?_
 exact⟨_,0,rfl,Z5 _,rfl⟩
 rintro zm zs ⟨k,rfl,fU,rfl⟩
 refine wS [5,3003] [3,8,9,11,12,52] [] ?_ ?_<;>intro h4
 refine wS [2005,7002] [3,8,9,12,56] [] ?_ ?_<;>intro h5'
 refine wA [13,9002] [3,8,9,11,12] [] ?_;rotate_left
 refine wZ [6004,5000] ?_
 refine oE J J J J J J (pT (w:=(w.drop (i+1)++[62]:List Int).take k) h2r (by rw[aaa];omega)) ?_
 refine wA [7,9002] [3,8,9,11,12] [] ?_;rotate_left
 refine wS [4010] [11,65] [] ?_ ?_<;>intro h6'
 refine wZ [8006] ?_;rotate_left
 refine wZ [8006] ?_;rotate_left
 all_goals first
  | (
    first|(rw[Nt ach];done)|(obtain rfl:k=(w.drop (i+1)++[62]).length+1:=ace;rw[P5 ach];simp_all);done)
  | (
    refine⟨_,⟨k+1,rfl,ace,?_⟩,ace⟩
    rw[Ax (fun k=>Aq r.left ((62 :: w.take i).drop k)) k];first|(rw[show vQ (fun k=>Aq r.left ((62 :: w.take i).drop k)) k=true by assumption];rfl)|(rw[show vQ (fun k=>Aq r.left ((62 :: w.take i).drop k)) k=false by assumption,Bool.false_or];rfl);done)
  | (
    refine⟨_,⟨k+1,rfl,ace,?_⟩,ace⟩
    rw[Ax (fun k=>Aq r.right ((w.drop (i+1)++[62]:List Int).take k)) k];first|(rw[show vQ (fun k=>Aq r.right ((w.drop (i+1)++[62]:List Int).take k)) k=true by assumption];rfl)|(rw[show vQ (fun k=>Aq r.right ((w.drop (i+1)++[62]:List Int).take k)) k=false by assumption,Bool.false_or];rfl);done)
theorem Tj {α:Type} [Inhabited α]{p:α→Bool}{l:List α}:eB p l<l.length:=by
 unfold eB
 split
 ·next h =>
  obtain⟨x,hx,hpx⟩:=aay.1 h
  have:=abM ⟨x,hx,hpx⟩
  omega
 ·omega
theorem HV {r:aG}{w:List Int}{i:Nat}(h:vR r w i=true):0≤eB (fun p:eH=>decide (p.src=w.getD i default)) r.pairs∧eB (fun p:eH=>decide (p.src=w.getD i default)) r.pairs<r.pairs.length:=by
 unfold vR at h
 rw[aae,decide_eq_true_eq] at h
 exact⟨h.1,Tj⟩
noncomputable def rW (r:aG)(w:List Int)(i:Nat):List Int:=if vR r w i=true then(r.pairs.getD (eB (fun p:eH=>decide (p.src=w.getD i default)) r.pairs).toNat default).dst else[w.getD i default]
noncomputable def Gk (r:aG)(w:List Int)(i:Nat):List Int:=(List.range i).flatMap (rW r w)
theorem uE {r:aG}{w:List Int}{i:Nat}(h:vR r w i=true):rW r w i=(r.pairs.getD (eB (fun p:eH=>decide (p.src=w.getD i default)) r.pairs).toNat default).dst:=if_pos h
theorem x7 {r:aG}{w:List Int}{i:Nat}(h:vR r w i=false):rW r w i=[w.getD i default]:=if_neg (by rw[h];decide)
theorem Ay (r:aG)(w:List Int)(i:Nat):Gk r w (i+1)=Gk r w i++rW r w i:=by
 unfold Gk;rw[aaP,abF];simp
theorem Tk {r:aG}(h:bI r=true):∀p∈r.pairs,p.dst.length≤3∧fD p.dst=true:=fun p hp=>by
 unfold bI at h
 simp only[aae,aam] at h
 have:=h.1.2 p hp
 unfold js at this
 simp only[aae,decide_eq_true_eq] at this
 exact⟨this.1.2,this.2⟩
theorem P6 {r:aG}{w:List Int}(h:bI r=true):∀i,(Gk r w i).length≤3*i∧(rW r w i).length≤3:=by
 have hp:∀i,(rW r w i).length≤3:=fun i=>by
  by_cases ha:vR r w i=true
  ·rw[uE ha]
   exact(Tk h _ (ba (by have:=HV ha;omega))).1
  ·rw[x7 (by simpa using ha)];show 1≤3;decide
 intro i
 refine⟨?_,hp i⟩
 induction i with
 | zero=>exact Z1 _
 | succ i ih=>rw[Ay,aab];have:=hp i;omega
theorem Nu {p:eH→Bool}:∀{l:List eH},(0≤eB p l→l.find? p=some (l.getD (eB p l).toNat default))∧(eB p l<0→l.find? p=none):=by
 intro l
 unfold eB
 cases h:l.any p with
 | true =>
   rw[if_pos rfl]
   refine⟨fun _=>?_,fun h0=>ace⟩
   rw[abl]
   obtain⟨x,hx,hpx⟩:=aay.1 h
   have hlt:l.findIdx p<l.length:=abM ⟨x,hx,hpx⟩
   rw[dT hlt]
   have:=List.find?_eq_some_iff_getElem (xs:=l) (p:=p) (b:=l[l.findIdx p])
   exact this.2 ⟨List.findIdx_getElem,l.findIdx p,hlt,rfl,fun j hj=>by simpa using List.not_of_lt_findIdx hj⟩
 | false =>
   rw[if_neg acg]
   refine⟨fun h0=>ace,fun _=>?_⟩
   rw[ab7]
   intro x hx
   have:=abe.1 h x hx
   simpa using this
theorem JO {r:aG}{w:List Int}(h:(bI r&&fD w)=false):uA r w=w:=if_neg (by rw[h];decide)
theorem Gl {r:aG}{w:List Int}{i:Nat}(h:(bI r&&fD w)=true)(hi:i=w.length):uA r w=Gk r w i:=by
 subst hi
 unfold uA Gk
 rw[if_pos h]
 congr 1
 funext i
 unfold la
 have h1:=Nu (p:=fun p:eH=>decide (p.src=w.getD i default)) (l:=r.pairs)
 by_cases hx:0≤eB (fun p:eH=>decide (p.src=w.getD i default)) r.pairs
 ·rw[h1.1 hx]
  unfold rW vR
  rw[decide_eq_true hx,aaZ]
 ·rw[h1.2 ace,x7 (Nt ace)]
abbrev Vk:=dU 4 Tryz.func180
theorem vu {r:aG}{w:List Int}(hw:w.length≤1048576)(hl:r.pairs.length≤1099511627776)(hd:∀p∈r.pairs,p.dst.length≤1099511627776)(h1r:r.left.size≤1099511627776)(h2r:r.right.size≤1099511627776):aq Tryz.prog 180 [bm r,ints w] (.fresh 3 ((uA r w).map int)):=by
 refine cF Vk fun w0 M0 aa=>?_
 refine c6 [2,1005,6] [1,2,5,7] [5] ?_
 refine oC J J J J (oK hl hd h1r h2r) ?_
 refine wS [4002] [1,2,5,10] [5] ?_ ?_<;>intro h1'
 refine wZ [1011,8005] ?_;rotate_left
 refine wA [1] [1,2,5,10,11] [5] ?_
 refine oC J J J J (tg ace) ?_
 refine wS [3004] [1,2,5,14] [5] ?_ ?_<;>intro h2
 refine wZ [1005,8005] ?_;rotate_left
 refine wA [10] [1,2,5,6] [5] ?_
 have hout:=P6 (r:=r) (w:=w) (by simp_all)
 refine lp (fun zm zs=>∃i:Nat,zm=w.length-i∧(i≤w.length)∧zs=⟨49,[(1,vvz (ints w)),(2,vvz (D2 r)),(5,.own 5),(6,vvw (int i))],[(5,.arr 3 ((Gk r w i).map int))]⟩) ?_ ?_
 exact⟨_,0,rfl,Z5 _,rfl⟩
 rintro zm zs ⟨i,rfl,aZ,rfl⟩
 have hr:=hout i
 refine wS [5,3003] [1,2,5,6,21] [5] ?_ ?_<;>intro h3
 refine wA [10] [1,2,5,6,24,25,26] [5] ?_
 refine oC J J J J (y5 ace hw hl h1r h2r) ?_
 refine wS [3002] [1,2,5,6,27] [5] ?_ ?_<;>intro h4
 have hx0:=HV ach
 have hx1:=(hout i).2
 rw[uE ach] at hx1
 refine wA [2001,6006,1] [1,2,6,28,30,31,35] [5] ?_
 refine oE J J J J J J (x4 hl) ?_
 refine wA [6000,2] [1,2,6,28,39] [5] ?_
 refine c7 acf ?_
 refine ea J (step_append J J J J Tryz.underlying22 Ux J J aa (sE J (fun _=>⟨_,rfl⟩)) (by first|(simp only[ll];omega)|omega) (by first|(simp only[ll];omega)|omega)) ?_
 refine G6 J J J (dn J J) ?_
 refine fZ ?_
 refine jl [4,9002] [1,2,5,6] [5] ?_;rotate_left
 refine wA [5,1,1000,6,9002] [1,2,5,6] [5] ?_;rotate_left
 refine wZ [8013] ?_;rotate_left
 all_goals first
  | (
    first|(rw[JO (by simp_all)];first|done|rfl)|(rw[Gl (i:=i) (by simp_all) ace];first|done|rfl);done)
  | (
    exact⟨_,⟨i+1,rfl,ace,by rw[Ay,Z8];first|(rw[uE ach];rfl)|(rw[x7 ach];rfl)⟩,ace⟩;done)
abbrev Vl:=dU 2 Tryz.func133
theorem rX {x:Int}:aq Tryz.prog 133 [int x] (.p (bool false)):=by
 refine cF Vl fun w0 M0 aa=>?_
 refine zM [8014] ?_
 rw[decide_eq_true rfl];rfl
abbrev XM:=dU 4 Tryz.func88
theorem x8 {x y:Int}:aq Tryz.prog 88 [int x,int y] (.p (int (bQ x y))):=by
 refine cF XM fun w0 M0 aa=>?_
 refine c6 [8] [0,1,7] [] ?_
 refine oC J J J J (rX) ?_
 refine wA [6] [0,1,5,9] [] ?_
 refine oC J J J J (rX) ?_
 refine wS [3009] [0,1,6,11] [] ?_ ?_<;>intro h1
 cases h1 --done
 refine wS [3009] [0,1,13] [] ?_ ?_<;>intro h2
 cases h2 --done
 refine wS [3011] [0,1,16] [] ?_ ?_<;>intro h3
 refine wZ [8008] ?_;rotate_left
 refine wS [3011] [19] [] ?_ ?_<;>intro h4
 refine wZ [8008] ?_;rotate_left
 refine wZ [8009] ?_;rotate_left
 all_goals
  unfold bQ;first|rw[if_pos ach]|(rw[if_neg ach,if_pos ace];done)|(rw[if_neg ach,if_neg ace];done)
abbrev Vm:=dU 2 Tryz.func259
theorem HW {l:List Int}(hl:l.length≤1099511627776):aq Tryz.prog 259 [ints l] (.p (int (LU l))):=by
 refine cF Vm fun w0 M0 aa=>?_
 refine c6 [14,4] [3,6,7,8] [] ?_
 refine lp (fun zm zs=>∃k:Nat,zm=l.length-k∧(k≤l.length)∧(LU l=LU (l.drop k))∧zs=⟨18,[(3,vvw (int 0)),(6,vvz (ints l)),(7,vvw (int l.length)),(8,vvw (int k))],[]⟩) ?_ ?_
 exact⟨_,0,rfl,Z5 _,rfl,rfl⟩
 rintro zm zs ⟨k,rfl,aZ,au,rfl⟩
 refine wS [3006] [3,6,7,8,9] [] ?_ ?_<;>intro h1
 refine wS [7,3011] [3,5,6,7,8,14] [] ?_ ?_<;>intro h2
 refine wZ [8013] ?_
 rw[au,Dh ace,Bq ach]
 refine wA [5,9002] [3,6,7,8] [] ?_
 exact⟨_,⟨k+1,rfl,ace,by rw[au,Dh ace,lT ace],rfl⟩,ace⟩
 refine wZ [8013] ?_
 rw[au,aaU ace];rfl
abbrev XN:=dU 4 Tryz.func57
theorem ng {a b:List Int}(ha:a.length≤1099511627776)(hb:b.length≤1099511627776):aq Tryz.prog 57 [ints a,ints b] (.p (int (bB a b))):=by
 refine cF XN fun w0 M0 aa=>?_
 refine c6 [9,4] [0,1,9,10,11] [] ?_
 refine lp (fun zm zs=>∃k:Nat,zm=a.length-k∧(k≤a.length)∧(k≤b.length)∧(bB a b=bB (a.drop k) (b.drop k))∧zs=⟨36,[(0,vvz (ints a)),(1,vvz (ints b)),(9,vvz (ints a)),(10,vvw (int a.length)),(11,vvw (int k))],[]⟩) ?_ ?_
 exact⟨_,0,rfl,Z5 _,Z5 _,rfl,rfl⟩
 rintro zm zs ⟨k,rfl,aZ,au,cX,rfl⟩
 refine wS [3006] [0,1,9,10,11,12] [] ?_ ?_<;>intro h1
 refine wS [8,10,3003] [0,1,5,6,9,10,11,19] [] ?_ ?_<;>intro h2
 refine wZ [8013] ?_;rotate_left
 refine wA [7,8] [0,1,9,10,11,24,25] [] ?_
 refine oC J J J J (x8) ?_
 refine wS [3009] [0,1,8,9,10,11,28] [] ?_ ?_<;>intro h3
 refine wZ [8013] ?_;rotate_left
 refine wA [5,9002] [0,1,9,10,11] [] ?_
 exact⟨_,⟨k+1,rfl,ace,ace,by rw[cX,pA ace ace,lT ace],rfl⟩,ace⟩
 refine wS [10,1,3003] [35] [] ?_ ?_<;>intro h4
 refine wZ [8008] ?_;rotate_left
 refine wZ [8009] ?_;rotate_left
 all_goals
  rw[cX];first|(rw[oj ace ace ace,zS ace];done)|(rw[pA ace ace,Bq ach];done)|(rw[oj ace ace ace,tY ace];done)|(rw[oj ace ace ace,show a.length=b.length by omega,zR])
abbrev Vn:=dU 6 Tryz.func260
theorem Az {a b:List Rx}{g:FuncId}(ha:a.length≤1099511627776)(hb:b.length≤1099511627776)(hf:∀x∈a,∀y∈b,aq Tryz.prog g [rx x,rx y] (.p (int (de x y)))) :
  aq Tryz.prog 260 [gJ a,gJ b,.clo g []] (.p (int (cE a b))):=by
 refine cF Vn fun w0 M0 aa=>?_
 refine c6 [9,4] [0,1,2,11,12,13] [] ?_
 refine lp (fun zm zs=>∃k:Nat,zm=a.length-k∧(k≤a.length)∧(k≤b.length)∧(cE a b=cE (a.drop k) (b.drop k))∧zs=⟨39,[(0,vvz (gJ a)),(1,vvz (gJ b)),(2,vvz (.clo g [])),(11,vvz (gJ a)),(12,vvw (int a.length)),(13,vvw (int k))],[]⟩) ?_ ?_
 exact⟨_,0,rfl,Z5 _,Z5 _,rfl,rfl⟩
 rintro zm zs ⟨k,rfl,aZ,au,cX,rfl⟩
 refine wS [3006] [0,1,2,11,12,13,14] [] ?_ ?_<;>intro h1
 refine wS [8,11,3003] [0,1,2,7,8,11,12,13,21] [8] ?_ ?_<;>intro h2
 refine wZ [8013] ?_;rotate_left
 refine wA [7,10] [0,1,2,11,12,13,26,27,28] [] ?_
 refine oC J J J J (hf _ (aP ace) _ (aP ace)) ?_
 refine wS [3009] [0,1,2,10,11,12,13,31] [] ?_ ?_<;>intro h3
 refine wZ [8013] ?_;rotate_left
 refine wA [5,9002] [0,1,2,11,12,13] [] ?_
 exact⟨_,⟨k+1,rfl,ace,ace,by rw[cX,rN ace ace,lT ace],rfl⟩,ace⟩
 refine wS [10,1,3003] [38] [] ?_ ?_<;>intro h4
 refine wZ [8008] ?_;rotate_left
 refine wZ [8009] ?_;rotate_left
 all_goals
  rw[cX];first|(rw[qo ace ace ace,zS ace];done)|(rw[rN ace ace,Bq ach];done)|(rw[qo ace ace ace,tY ace];done)|(rw[qo ace ace ace,show a.length=b.length by omega,zR])
abbrev RF:=dU 4 Tryz.func252
theorem tj:∀ (m:Nat)(a b:Rx),a.size≤m→b.size≤1099511627776→m≤1099511627776→aq Tryz.prog 252 [rx a,rx b] (.p (int (de a b))):=by
 intro m
 induction m with
 | zero=>intro a b hr _ _;have:=size_pos a;omega
 | succ m ih =>
 intro a b ha hb hm
 have hka:=dX a
 have hsa:=eA a
 have hkb:=dX b
 have hsb:=eA b
 rw[fi a,fi b]
 refine cF RF fun w0 M0 aa=>?_
 refine c6 [2,0,2004,4] [2,3,6,8] [] ?_
 refine oE J J J J J J (x8) ?_
 refine wA [4] [2,3,9,11,13] [] ?_
 refine oE J J J J J J (ng ace ace) ?_
 refine wA [4] [9,14,16,18] [] ?_
 refine oE J J J J J J (Az ace ace (fun x hx y hy=>ih x y (aaT (aax (dd hx) ha)) (aau (Nat.le_of_lt (dd hy)) hb) ace)) ?_
 refine wZ [6000,5000] ?_
 refine oE J J J J J J (HW (l:=[bQ a.kind b.kind,bB a.syms b.syms,cE a.kids b.kids]) (by simp)) ?_
 refine wZ [8004] ?_
 rw[Hl]
theorem Nv:ME Tryz.prog 251 3 :=
 ⟨⟨Tryz.f251, Tryz.func251, acf, acf⟩,
  fun p cap fv w=>AnyF.slices_SortFunc_none { Tryz.jU with } p cap fv w,
  fun enc hk h1 cf hO g cb blk off cap d w eg hcmp hH hblk hsz=>AnyQ.slices_SortFunc Tryz.jU 3 (fun w=>dp iC w) (fun w=>dx bX w) enc hk h1 cf hO g cb blk off cap d w eg hcmp hH hblk hsz⟩
theorem Nw:Ly Tryz.prog 250 :=
 ⟨⟨Tryz.f250, Tryz.func250, acf, acf⟩,
  fun p cap w=>AnyM.slices_Sort_int_none Tryz.Rg p cap w,
  fun blk off cap zs w hH hblk hsz=>AnyM.slices_Sort_int Tryz.Rg blk off cap zs w hH hblk hsz⟩
theorem RG:Uo Tryz.prog 233 3 :=
 ⟨⟨Tryz.f233, Tryz.func233, acf, acf⟩,
  fun p cap w=>AnyQ.slices_Reverse_empty Tryz.eo p cap w,
  fun enc hk h1 blk off cap d w hH hsz=>AnyQ.slices_Reverse Tryz.eo 3 (fun w=>dp iC w) (fun w=>dx bX w) enc hk h1 blk off cap d w hH hsz⟩
abbrev Vo:=dU 2 Tryz.func122
theorem oO {l:List Int}(hl:l.length≤1099511627776):lg Tryz.prog 122 [.own 0] [(0,.arr 3 (l.map int))] (.own 0) [(0,.arr 3 ((sj (fun x y=>decide (x=y)) l).map int))]:=by
 refine gz Vo (ZZ J) fun w0 M0 aa=>?_
 refine rM [9,3003] [0,8] [0] ?_ ?_<;>intro h1
 refine wZ [9] ?_
 refine ey (o1:=[(0,_)]) J ⟨rfl,trivial⟩ ?_
 rw[tZ ace];exact⟨rfl,rfl⟩
 refine wA [10] [0,3] [0] ?_
 refine lp (fun zm zs=>∃q:Nat,zm=l.length-q∧(1≤q)∧(q≤l.length)∧(en (fun x y=>decide (x=y)) l q=l.take q)∧zs=⟨61,[(0,.own 0),(3,vvw (int q))],[(0,.arr 3 (l.map int))]⟩) ?_ ?_
 exact⟨_,1,rfl,Z1 _,ace,by rw[sT,bD ace];rfl,rfl⟩
 rintro zm zs ⟨q,rfl,aZ,au,cX,rfl⟩
 have e0:((q:Int)-1).toNat=q-1:=ace
 refine wS [5,3003] [0,3,13] [0] ?_ ?_<;>intro h2
 refine wS [2006,6002,6000,6002,6000,6000,3003] [0,3,25] [0] ?_ ?_<;>intro h3
 refine wA [5] [0,3,26,27] [0] ?_
 refine oP J (dN J Tryz.underlying22 y3 J J J (by first|(simp only[ll];omega)|omega)) ?_
 refine wA [10] [0,3,4,5] [0] ?_
 refine lp (fun zm zs=>∃(ys:List Int)(k j:Nat),zm=l.length-q-j∧(1≤j)∧(q+j≤l.length)∧(ys.length=l.length)∧(en (fun x y=>decide (x=y)) l (q+j)=ys.take k)∧(k+1≤q+j)∧(∀i,q+j≤i+1→ys.getD i default=l.getD i default)∧zs=⟨61,[(0,.own 0),(3,vvw (int k)),(4,.vsl 0 q ((l.map int).length-q)),(5,vvw (int j))],[(0,.arr 3 (ys.map int))]⟩) ?_ ?_
 rw[e0] at h3
 exact⟨_,l,q,1,rfl,Z1 _,ace,rfl,(nv ace (decide_eq_true h3)).trans cX,Z1 _,fun i _=>rfl,rfl⟩
 rintro zm zs ⟨ys,k,j,rfl,fU,fW,mO,pX,RH,ir,rfl⟩
 refine wS [5,3003] [0,3,4,5,32] [0] ?_ ?_<;>intro h4
 refine wS [2006,6002,6000,6002,6000,6000,3003] [0,3,4,5,44] [0] ?_ ?_<;>intro h5
 refine wZ [7,0,0,5000] ?_
 refine oS J (ay J J J y3 J J (ix (by first|(simp only[ll];omega)|omega)) J J (.inl J) J (ZZ J) aa) J ?_
 refine wA [4,6,9002] [0,3,4,5] [0] ?_
 have e1:((j:Int)-1).toNat=j-1:=ace
 rw[e1,ir (q+j) ace,ir (q+(j-1)) ace] at h5
 refine⟨_,⟨ys.set k (l.getD (q+j) default),k+1,j+1,rfl,ace,ace,by simpa using mO,Br ace pX ?_,ace,fun i hi=>?_,?_⟩,ace⟩
 ·rw[show q+j-1=q+(j-1) by omega]
  exact decide_eq_false h5
 ·rw[lx ace];exact ir i ace
 ·rw[List.map_set,←ir (q+j) ace];rfl
 refine wA [6,9002] [0,3,4,5] [0] ?_
 have e1:((j:Int)-1).toNat=j-1:=ace
 rw[e1,ir (q+j) ace,ir (q+(j-1)) ace] at h5
 refine⟨_,⟨ys,k,j+1,rfl,ace,ace,mO,xn ace pX ?_,ace,fun i hi=>ir i ace,rfl⟩,ace⟩
 rw[show q+j-1=q+(j-1) by omega]
 exact decide_eq_true h5
 refine wA [10] [0,3,54,55] [0] ?_
 refine oP J (dN J Tryz.underlying22 y3 J J J (by first|(simp only[ll];omega)|omega)) ?_
 refine oS J (jQ (zv:=int 0) J J J Tryz.underlying22 y3 J J Xs acg J J aa) J ?_
 refine wA [6] [57,58] [0] ?_
 refine oP J (gW J Tryz.underlying22 y3 J J J (by first|(simp only[ll];omega)|omega)) ?_
 refine pj 59 J J aa J ?_
 refine FC [9] ?_
 refine ey (o1:=[(0,_)]) J ⟨rfl,trivial⟩ ?_
 refine⟨rfl,?_⟩
 rw[←Bs (f:=int) (k:=k) (n:=q+j) ace ace pX];rfl
 refine wA [6,9002] [0,3] [0] ?_
 rw[e0] at h3
 exact⟨_,⟨q+1,rfl,ace,ace,ua ace cX (decide_eq_false h3),rfl⟩,ace⟩
 refine wZ [13] ?_
 refine ey (o1:=[(0,_)]) J ⟨rfl,trivial⟩ ?_
 rw[Bt (n:=q) ace cX];exact⟨rfl,rfl⟩
abbrev Vp:=dU 4 Tryz.func253
theorem rk {l:List Rx}{eq:Rx→Rx→Bool}{g:FuncId}(hl:l.length≤1099511627776)(hf:∀x∈l,∀y∈l,aq Tryz.prog g [rx x,rx y] (.p (bool (eq x y)))) :
  lg Tryz.prog 253 [.own 0,vvw (.clo g [])] [(0,.arr 87 (l.map rx))] (.own 0) [(0,.arr 87 ((sj eq l).map rx))]:=by
 refine gz Vp (ZZ J) fun w0 M0 aa=>?_
 refine rM [9,3003] [0,1,10] [0] ?_ ?_<;>intro h1
 refine wZ [9] ?_
 refine ey (o1:=[(0,_)]) J ⟨rfl,trivial⟩ ?_
 rw[tZ ace];exact⟨rfl,rfl⟩
 refine wA [10] [0,1,5] [0] ?_
 refine lp (fun zm zs=>∃q:Nat,zm=l.length-q∧(1≤q)∧(q≤l.length)∧(en (eq) l q=l.take q)∧zs=⟨66,[(0,.own 0),(1,vvw (.clo g [])),(5,vvw (int q))],[(0,.arr 87 (l.map rx))]⟩) ?_ ?_
 exact⟨_,1,rfl,Z1 _,ace,by rw[sT,bD ace];rfl,rfl⟩
 rintro zm zs ⟨q,rfl,aZ,au,cX,rfl⟩
 have e0:((q:Int)-1).toNat=q-1:=ace
 refine wS [5,3003] [0,1,5,15] [0] ?_ ?_<;>intro h2
 refine wZ [2006,6003,6000,6002,6000,6000,5000] ?_
 refine oE J J J J J J (hf _ (aP ace) _ (aP ace)) ?_
 refine wS [3002] [0,1,5,28] [0] ?_ ?_<;>intro h3
 refine wA [5] [0,1,5,29,30] [0] ?_
 refine oP J (dN J Tryz.underlying85 bX J J J (by first|(simp only[ll];omega)|omega)) ?_
 refine wA [10] [0,1,5,6,7] [0] ?_
 refine lp (fun zm zs=>∃(ys:List Rx)(k j:Nat),zm=l.length-q-j∧(1≤j)∧(q+j≤l.length)∧(ys.length=l.length)∧(en (eq) l (q+j)=ys.take k)∧(k+1≤q+j)∧(∀i,q+j≤i+1→ys.getD i default=l.getD i default)∧(∀x∈ys,x∈l)∧zs=⟨66,[(0,.own 0),(1,vvw (.clo g [])),(5,vvw (int k)),(6,.vsl 0 q ((l.map rx).length-q)),(7,vvw (int j))],[(0,.arr 87 (ys.map rx))]⟩) ?_ ?_
 rw[e0] at h3
 exact⟨_,l,q,1,rfl,Z1 _,ace,rfl,(nv ace (h3)).trans cX,Z1 _,fun i _=>rfl,fun x hx=>hx,rfl⟩
 rintro zm zs ⟨ys,k,j,rfl,fU,fW,mO,pX,RH,ir,tk,rfl⟩
 refine wS [5,3003] [0,1,5,6,7,35] [0] ?_ ?_<;>intro h4
 refine wZ [2006,6003,6000,6002,6000,6000,5000] ?_
 refine oE J J J J J J (hf _ (tk _ (aP ace)) _ (tk _ (aP ace))) ?_
 refine wS [3003] [0,1,5,6,7,49] [0] ?_ ?_<;>intro h5
 refine wZ [7,0,0,5000] ?_
 refine oS J (ay J J J bX J J (ix (by first|(simp only[ll];omega)|omega)) J J (.inl J) J (ZZ J) aa) J ?_
 refine wA [4,6,9002] [0,1,5,6,7] [0] ?_
 have e1:((j:Int)-1).toNat=j-1:=ace
 rw[e1,ir (q+j) ace,ir (q+(j-1)) ace] at h5
 refine⟨_,⟨ys.set k (l.getD (q+j) default),k+1,j+1,rfl,ace,ace,by simpa using mO,Br ace pX ?_,ace,fun i hi=>?_,fun x hx=>?_,?_⟩,ace⟩
 ·rw[show q+j-1=q+(j-1) by omega]
  exact h5
 ·rw[lx ace];exact ir i ace
 ·rcases List.mem_or_eq_of_mem_set hx with hx|rfl
  ·exact tk x hx
  ·exact aP ace
 ·rw[List.map_set,←ir (q+j) ace];rfl
 refine wA [6,9002] [0,1,5,6,7] [0] ?_
 have e1:((j:Int)-1).toNat=j-1:=ace
 rw[e1,ir (q+j) ace,ir (q+(j-1)) ace] at h5
 refine⟨_,⟨ys,k,j+1,rfl,ace,ace,mO,xn ace pX ?_,ace,fun i hi=>ir i ace,tk,rfl⟩,ace⟩
 rw[show q+j-1=q+(j-1) by omega]
 exact h5
 refine wA [10] [0,5,59,60] [0] ?_
 refine oP J (dN J Tryz.underlying85 bX J J J (by first|(simp only[ll];omega)|omega)) ?_
 refine oS J (jQ (zv:=.agg [int 0,.sc (.slice none 0 0),.sc (.slice none 0 0)]) J J J Tryz.underlying85 bX J J oI acg J J aa) J ?_
 refine wA [6] [62,63] [0] ?_
 refine oP J (gW J Tryz.underlying85 bX J J J (by first|(simp only[ll];omega)|omega)) ?_
 refine pj 64 J J aa J ?_
 refine FC [9] ?_
 refine ey (o1:=[(0,_)]) J ⟨rfl,trivial⟩ ?_
 refine⟨rfl,?_⟩
 rw[←Bs (f:=rx) (k:=k) (n:=q+j) ace ace pX];rfl
 refine wA [6,9002] [0,1,5] [0] ?_
 rw[e0] at h3
 exact⟨_,⟨q+1,rfl,ace,ace,ua ace cX (h3),rfl⟩,ace⟩
 refine wZ [13] ?_
 refine ey (o1:=[(0,_)]) J ⟨rfl,trivial⟩ ?_
 rw[Bt (n:=q) ace cX];exact⟨rfl,rfl⟩
abbrev P7 (s:List Int)(k:List Rx):List (Nat×Ob):=[(10,.arr 3 (s.map int)),(11,.arr 87 (k.map rx)),(1000001,.box 22 [.own 10]),(1000002,.box 85 [.own 11])]
theorem Vq:QP Tryz.prog 249 Tryz.f249.ntmps (Tryz.f249.body.getD .skip):=⟨Tryz.f249,Tryz.func249,rfl,rfl,rfl,acf⟩
theorem tl {x:Rx}{s:List Int}{k:List Rx}(hs:s.length+x.syms.length≤1099511627776)(hk:k.length≤1099511627776) :
  lg Tryz.prog 249 [vvw (rx x),.pbox 1000001 0,.pbox 1000002 0] (P7 s k) (vvw (.tup [])) (P7 (ot s x) (fL k x)):=by
 rw[fi x]
 refine pn Vq (ZZ J) fun w0 M0 aa=>?_
 refine rM [2,3015] [1,2,3,5,12] [10,11,1000001,1000002] ?_ ?_<;>intro h1
 refine wZ [3] ?_
 refine ec (o1:=[(10,_),(11,_),(1000001,_),(1000002,_)]) ⟨rfl,rfl,rfl,rfl,trivial⟩ ?_
 rw[pE ace,FH ace]
 refine wS [3007] [1,2,3,14] [10,11,1000001,1000002] ?_ ?_<;>intro h2
 refine wZ [1005,3] ?_
 refine ec (o1:=[(10,_),(11,_),(1000001,_),(1000002,_)]) ⟨rfl,rfl,rfl,rfl,trivial⟩ ?_
 rw[ub ace,FH ace];unfold P7;rw[Z8];try rfl
 refine wZ [2001,6002,6000,5000] ?_
 refine A0 acf (bO (n:=4) acf ?_)
 refine xf 4 ?_
 refine eJ (i:=5) (j:=7) acf J J J J (aL J J (aD J Tryz.underlying85 bX J J J (by first|(simp only[ll];omega)|omega))) (aU J J J BS J J J J J aa) ?_ ?_
 refine eJ (i:=6) (j:=7) acf J J J J (ay J J J bX J J (iA rx k _) J J (.inl J) J (ZZ J) aa) (aU J J J BS J J J J J aa) ?_ ?_
 refine aH (i:=7) acf J J (aU J J J BS J J J J J aa) ?_
 refine bg acf ?_
 refine Cx [1] ?_
 refine ec (o1:=[(10,_),(11,_),(1000001,_),(1000002,_)]) ⟨rfl,rfl,rfl,rfl,trivial⟩ ?_;rotate_left
 refine aH (i:=6) acf J J (ay J J J bX J J (iA rx k _) J J (.inl J) J (ZZ J) aa) ?_
 refine bg acf ?_
 refine Cx [1] ?_
 refine ec (o1:=[(10,_),(11,_),(1000001,_),(1000002,_)]) ⟨rfl,rfl,rfl,rfl,trivial⟩ ?_;rotate_left
 refine xe 5 ?_
 refine aH (i:=6) acf J J (ay J J J bX J J (iA rx k _) J J (.inl J) J (ZZ J) aa) ?_
 refine bg acf ?_
 refine Cx [1] ?_
 refine ec (o1:=[(10,_),(11,_),(1000001,_),(1000002,_)]) ⟨rfl,rfl,rfl,rfl,trivial⟩ ?_;rotate_left
 all_goals
  rw[pE ace,LV ace];unfold P7;rw[←xo (z:=.agg [int 0,.sc (.slice none 0 0),.sc (.slice none 0 0)]),fi x];rfl
end Go.Proofs.YtlapahnodhmcpaaGreat
