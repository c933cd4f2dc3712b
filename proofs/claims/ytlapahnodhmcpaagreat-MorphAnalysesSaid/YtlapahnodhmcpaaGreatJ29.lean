/-
  Part of the proof.
-/
import Derived.Test.YtlapahnodhmcpaaGreatJ0
import Derived.Test.YtlapahnodhmcpaaGreatJ16
import Derived.Test.YtlapahnodhmcpaaGreatJ28
set_option linter.unusedVariables false
set_option linter.unusedSectionVars false
set_option linter.unusedSimpArgs false
set_option maxRecDepth 100000
set_option maxHeartbeats 40000000
namespace Go.Wf
open Go.Am Go.Wb Go.RowKit Go.ChangeMaps Go.MapKept
def Gq (r:aG)(w:List Int)(i:Nat):List AV:=(List.range w.length).map fun j=>bool (decide (j<i)&&vp r.left w j)
def B4 (r:aG)(w:List Int)(k:Nat):List AV:=(List.range w.length).map fun j=>bool (decide (w.length-k≤j)&&oJ r.right w j)
theorem Qb {r:aG}{w:List Int}{i:Nat}:(Gq r w i).length=w.length:=by unfold Gq;rw[Z0,aai]
theorem jg {r:aG}{w:List Int}{i:Nat}:(B4 r w i).length=w.length:=by unfold B4;rw[Z0,aai]
theorem map_const {n:Nat}{f:Nat→AV}{z:AV}(h:∀j,j<n→f j=z):(List.range n).map f=List.replicate n z:=by
 rw[List.eq_replicate_iff]
 refine⟨by simp,fun b hb=>?_⟩
 obtain⟨j,hj,rfl⟩:=aao.1 hb
 exact h j (aap.1 hj)
theorem VH {r:aG}{w:List Int}:Gq r w 0=List.replicate w.length (.sc (.bool false)):=map_const fun j _=>by rw[decide_eq_false (Nat.not_lt_zero j)];rfl
theorem VI {r:aG}{w:List Int}:B4 r w 0=List.replicate w.length (.sc (.bool false)):=map_const fun j hj=>by rw[decide_eq_false (show ¬w.length-0≤j by omega)];rfl
theorem HY {n i:Nat}{f g:Nat→AV}{v:AV}(hi:i<n)(hv:v=g i)(h:∀j,j<n→j≠i→f j=g j):((List.range n).map f).set i v=(List.range n).map g:=by
 refine aa0 fun j=>?_
 rw[List.getElem?_set,Z6,Z6,Z0,aai]
 by_cases hj:i=j
 ·subst hj;rw[if_pos rfl,if_pos hi,aa5 hi,aaK,hv]
 ·rw[if_neg hj]
  rcases aaq j n with hlt|hge
  ·rw[aa5 hlt,aaK,aaK,h j hlt (aaX hj)]
  ·rw[aaz (by rw[aai];exact hge)];rfl
theorem Qc {r:aG}{w:List Int}{i:Nat}(hi:i<w.length):(Gq r w i).set i (bool (cP (atR r.left (62 :: w.take i))))=Gq r w (i+1):=by
 refine HY hi ?_ fun j hj hne=>?_
 ·rw[decide_eq_true (Nat.lt_succ_self i),aaZ];rfl
 ·by_cases h:j<i
  ·rw[decide_eq_true h,decide_eq_true (show j<i+1 by omega)]
  ·rw[decide_eq_false h,decide_eq_false (show ¬j<i+1 by omega)]
theorem Qd {r:aG}{w:List Int}{k:Nat}(hk:k<w.length):(B4 r w k).set ((w.length:Int)-1-(k:Int)).toNat (bool (cP (atR (eo r.right) (62 :: (w.drop (w.length-k)).reverse))))=B4 r w (k+1):=by
 refine HY ace ?_ fun j hj hne=>?_
 ·rw[decide_eq_true (show w.length-(k+1)≤((w.length:Int)-1-(k:Int)).toNat by omega),aaZ]
  unfold oJ
  rw[show((w.length:Int)-1-(k:Int)).toNat+1=w.length-k by omega]
 ·by_cases h:w.length-k≤j
  ·rw[decide_eq_true h,decide_eq_true (show w.length-(k+1)≤j by omega)]
  ·rw[decide_eq_false h,decide_eq_false (show ¬w.length-(k+1)≤j by omega)]
theorem XQ {r:Rx}{w:List Int}:atR r (62 :: (w.drop (w.length-0)).reverse)=atR r ([]++[62]):=by rw[abH,List.drop_length];rfl
theorem XR {r:Rx}{w:List Int}{k:Nat}(hk:k<w.length):atR r ((62 :: (w.drop (w.length-k)).reverse)++[w.getD ((w.length:Int)-1-(k:Int)).toNat default])=atR r (62 :: (w.drop (w.length-(k+1))).reverse):=by
 have hj:w.length-(k+1)<w.length:=ace
 rw[abh hj,List.reverse_cons,show w.length-(k+1)+1=w.length-k by omega,show((w.length:Int)-1-(k:Int)).toNat=w.length-(k+1) by omega,dT hj];rfl
theorem Eh (r:Rx):(eo r).size≤2*r.size:=by
 unfold eo;split
 ·exact lX true r
 ·have:=size_pos r;show 1+0+0≤_;omega
theorem B5 {n i:Nat}(h:i<n):(List.range n).getD i default=i:=by rw[ZY,aa5 h];rfl
theorem Qe {r:aG}{w:List Int}(h:bI r=true∧fD w=true):bI r=true∧fD w=true:=h
def RN (r:aG)(x:Int):List Int:=match la r.pairs x with
 | some p=>p.dst
 | none=>[]
def y6 (r:aG)(x:Int):Bool:=(la r.pairs x).isSome
def XS (r:aG)(x:Int):AV:=if y6 r x=true then ints (RN r x) else .sc (.slice none 0 0)
theorem JT (r:aG):∀u∈r.pairs.map (fun p=>nd p.src),IsKey (.int .i64) u:=fun u hu=>by
 obtain⟨p,_,rfl⟩:=aao.1 hu;rfl
theorem yc {x:Int}:∀l:List eH,(dI (l.map fun p=>nd p.src) (nd x)).isSome=(la l x).isSome∧∀i,dI (l.map fun p=>nd p.src) (nd x)=some i→∃p,l[i]?=some p∧la l x=some p
 | []=>⟨rfl,fun i h=>by cases h⟩
 | p :: l => by
   obtain⟨h1,h2⟩:=yc (x:=x) l
   rw[aaL]
   unfold dI la
   rw[List.find?_cons]
   by_cases h:p.src=x
   · rw [if_pos (td.2 h), decide_eq_true h]
     exact⟨rfl,fun i hi=>by cases hi;exact⟨p,rfl,rfl⟩⟩
   · rw [if_neg fun q => h (td.1 q), decide_eq_false h]
     refine⟨by rw[Option.isSome_map];exact h1,fun i hi=>?_⟩
     rw[Z4] at hi
     obtain⟨j,hj,rfl⟩:=hi
     obtain⟨q,hq,he⟩:=h2 j hj
     exact⟨q,by rw[aa8];exact hq,he⟩
theorem JU (r:aG)(x:Int):IL (r.pairs.map fun p=>nd p.src) (nd x)=y6 r x:=(yc r.pairs).1
theorem Gr (r:aG)(x:Int):sF (.sc (.slice none 0 0)) (r.pairs.map fun p=>nd p.src) (r.pairs.map fun p=>ints p.dst) (nd x)=XS r x:=by
 obtain⟨h1,h2⟩:=yc (x:=x) r.pairs
 unfold sF XS y6 RN
 cases h:dI (r.pairs.map fun p=>nd p.src) (nd x) with
 | none =>
   rw[h] at h1
   rw[if_neg (by rw[←h1];decide)]
 | some i =>
   rw[h] at h1
   rw[if_pos (by rw[←h1];rfl)]
   obtain⟨p,hp,he⟩:=h2 i h
   rw[he]
   show(r.pairs.map fun p=>ints p.dst).getD i _=ints p.dst
   rw[ZY,Z6,hp];rfl
theorem Qf {r:aG}{x:Int}(h:y6 r x=true):XS r x=ints (RN r x):=if_pos h
def rY (r:aG)(w:List Int)(i:Nat):List Int:=match la r.pairs (w.getD i default) with
 | some p=>if vp r.left w i&&oJ r.right w i then p.dst else[w.getD i default]
 | none=>[w.getD i default]
def JV (r:aG)(w:List Int)(i:Nat):List Int:=(List.range i).flatMap (rY r w)
theorem AG (r:aG)(w:List Int)(i:Nat):JV r w (i+1)=JV r w i++rY r w i:=by
 unfold JV;rw[aaP,abF];simp
theorem Ei {r:aG}{w:List Int}{i:Nat}(h:y6 r (w.getD i default)=true)(h1:vp r.left w i=true)(h2:oJ r.right w i=true):rY r w i=RN r (w.getD i default):=by
 unfold rY RN
 unfold y6 at h
 cases hp:la r.pairs (w.getD i default) with
 | none=>rw[hp] at h;cases h
 | some p=>simp only[h1,h2,Bool.and_self,if_true]
theorem Ej {r:aG}{w:List Int}{i:Nat}(h:y6 r (w.getD i default)=false∨vp r.left w i=false∨oJ r.right w i=false):rY r w i=[w.getD i default]:=by
 unfold rY
 unfold y6 at h
 cases hp:la r.pairs (w.getD i default) with
 | none=>rfl
 | some p =>
   rw[hp] at h
   rcases h with h|h|h
   · cases h
   · simp only[h,abc,abN,if_false]
   · simp only[h,abi,abN,if_false]
theorem Gs {r:aG}(h:bI r=true):∀p∈r.pairs,p.dst.length≤3∧fD p.dst=true:=fun p hp=>by
 unfold bI at h
 simp only[aae,aam] at h
 have:=h.1.2 p hp
 unfold js at this
 simp only[aae,decide_eq_true_eq] at this
 exact⟨this.1.2,this.2⟩
theorem HZ {r:aG}(h:bI r=true)(x:Int):(RN r x).length≤3:=by
 unfold RN
 cases hp:la r.pairs x with
 | none=>exact Z5 _
 | some p=>exact(Gs h p (abw hp)).1
theorem Ek {r:aG}{w:List Int}(h:bI r=true):∀i,(JV r w i).length≤3*i∧∀x,(RN r x).length≤3:=by
 have hp:∀i,(rY r w i).length≤3:=fun i=>by
   by_cases ha:y6 r (w.getD i default)=true∧vp r.left w i=true∧oJ r.right w i=true
   · rw[Ei ha.1 ha.2.1 ha.2.2];exact HZ h _
   · rw [Ej (by
       cases h1:y6 r (w.getD i default)<;>cases h2:vp r.left w i<;>cases h3:oJ r.right w i<;>simp_all)]
     show 1≤3;decide
 intro i
 refine⟨?_,HZ h⟩
 induction i with
 | zero=>exact Z1 _
 | succ i ih=>rw[AG,aab];have:=hp i;omega
theorem AH {r:aG}{w:List Int}(h:(bI r&&fD w)=false):bp r w=w:=if_neg (by rw[h];decide)
theorem yd {r:aG}{w:List Int}{i:Nat}(h:bI r=true∧fD w=true)(hi:i=w.length):bp r w=JV r w i:=by
 subst hi
 unfold bp
 rw[if_pos (by rw[h.1,h.2];rfl)];rfl
end Go.Wf
namespace Go.Proofs.YtlapahnodhmcpaaGreat
open Go.Am Go.Wb Go.Wc Go.Wf Go.We
abbrev VJ:=dU 2 Tryz.func187
theorem JW {w:List Int}:aX Tryz.prog 187 [ints w] (.p (.clo 229 [.pc [ints w] 0])):=by
 refine cN VJ fun w0 M0 aa=>?_
 refine zM [2,5,8004] ?_
 rfl
abbrev Gt (r:aG)(w:List Int)(k:Nat):List (Nat×Ob):=[(5,.arr 4 (B4 r w k)),(1000000,Qa (atR (eo r.right) (62 :: (w.drop (w.length-k)).reverse))),(1000001,.box 259 [.fn 227 [.bx 1000000]]),
 (1000002,.box 50 [.fn 228 [.bx 1000000]]),(1000003,.box 134 [.own 5])]
theorem VK:QP Tryz.prog 229 Tryz.f229.ntmps (Tryz.f229.body.getD .skip):=⟨Tryz.f229,Tryz.func229,rfl,rfl,rfl,acf⟩
theorem JX {r:aG}{w:List Int}{l:Nat}{rec:Loop}(hw:w.length≤1048576)
  (hY:∀k,k<w.length→Lm Tryz.prog l rec [8,9,12] [vvw (int ((w.length:Int)-1-(k:Int))),vvz (int (w.getD ((w.length:Int)-1-(k:Int)).toNat default))] [.pbox 1000001 0,.pbox 1000002 0,.pbox 1000003 0] (Gt r w k) (Gt r w (k+1))) :
  zE Tryz.prog 229 l rec [.hid (yR l rec [8,9,12]) [.bx 1000001,.bx 1000002,.bx 1000003],vvz (.pc [ints w] 0)] (Gt r w 0) (Gt r w w.length):=by
 refine lR VK (ZZ J) fun w0 M0 aa hmd Lo hwl=>?_
 refine c6 [3,0,4] [0,1,3] [5,1000000,1000001,1000002,1000003] ?_
 refine lp (fun zm zs=>∃k:Nat,zm=w.length-k∧(k≤w.length)∧zs=⟨19,[(0,.hid (yR l rec [8,9,12]) [.bx 1000001,.bx 1000002,.bx 1000003]),(1,vvz (.pc [ints w] 0)),(3,vvw (int ((w.length:Int)-1-(k:Int))))],[(5,.arr 4 (B4 r w k)),(1000000,.box 87 [vvw (int ((atR (eo r.right) (62 :: (w.drop (w.length-k)).reverse))).kind),vvw (ints ((atR (eo r.right) (62 :: (w.drop (w.length-k)).reverse))).syms),vvw (.sl (Rx.gi ((atR (eo r.right) (62 :: (w.drop (w.length-k)).reverse))).kids))]),(1000001,.box 259 [.fn 227 [.bx 1000000]]),(1000002,.box 50 [.fn 228 [.bx 1000000]]),(1000003,.box 134 [.own 5])]⟩) ?_ ?_
 exact⟨_,0,rfl,Z5 _,by rw[show(w.length:Int)-1-((0:Nat):Int)=(w.length:Int)-1 by omega];rfl⟩
 rintro zm zs ⟨k,rfl,aZ,rfl⟩
 refine wS [3007] [0,1,3,8] [5,1000000,1000001,1000002,1000003] ?_ ?_<;>intro h1
 refine wA [6] [0,1,3] [5,1000000,1000001,1000002,1000003] ?_
 refine yG 6 hmd J ?_
 refine wZ [4,2] ?_
 refine⟨_,rH [] J J J J J J J (hY k ace) Lo hwl ⟨.inl J,.inl J,trivial⟩ ⟨.inl J,.inl J,.inl J,trivial⟩ ⟨rfl,rfl,rfl,rfl,rfl,trivial⟩ J J J J aa,?_⟩
 refine wA [9,9002] [0,1,3] [5,1000000,1000001,1000002,1000003] ?_
 exact⟨_,⟨k+1,rfl,ace,by rw[show(w.length:Int)-1-((k+1:Nat):Int)=((w.length:Int)-1-(k:Int))-1 by omega];rfl⟩,ace⟩
 refine wZ [5] ?_
 refine ec (o1:=[(5,_),(1000000,_),(1000001,_),(1000002,_),(1000003,_)]) ⟨rfl,rfl,rfl,rfl,rfl,trivial⟩ ?_
 first|(obtain rfl:k=w.length:=by omega);rfl
section
variable {S N:Nat}{r:Rx}{v:List Int}(hS:(dy (fE r)).size≤S)(hK:(2*S*(N+2)+66)*(2*S*(N+2)+66)≤274877906000)
include hS hK
theorem B6 (b:Int)(hv:v.length≤N):wd (atR r v)≤274877906000∧xQ 274877906000 b (atR r v):=HG (K:=2*S*(N+2)+66) (Z1 _) hK b (qB (fE r)) hS hv
theorem gd {x:Int}(hv:v.length+1≤N):lg Tryz.prog 227 [vvz (int x),.pbox 1000000 0] [(1000000,Qa (atR r v))] (vvw (.tup [])) [(1000000,Qa (atR r (v++[x])))]:=by
 have h1:=B6 hS hK (v:=v) x ace
 have h2:=B6 hS hK (v:=v++[x]) 0 (by simpa using hv)
 rw[D0] at h2
 rw[D0]
 exact B2 (Z1 _) (No r v) h1.1 h1.2 h2.1
theorem jh (hv:v.length≤N):lg Tryz.prog 228 [.pbox 1000000 0] [(1000000,Qa (atR r v))] (vvw (bool (cP (atR r v)))) [(1000000,Qa (atR r v))] :=
 B3 (No r v) (aau (B6 hS hK (v:=v) 0 hv).1 acg)
end
abbrev VL:=dU 4 Tryz.func120
theorem VM:zeroOf Tryz.prog 259=some [.nilFunc]:=acf
theorem XT:zeroOf Tryz.prog 50=some [.nilFunc]:=acf
theorem Gu {r:aG}{w:List Int}{S:Nat}(hw:w.length≤1048576)(hl:r.pairs.length≤1099511627776)(hd:∀p∈r.pairs,p.dst.length≤1099511627776)(h1:r.left.size≤1048576)(h2:r.right.size≤1048576)(Vr:(dy (fE r.left)).size≤S)(wu:(dy (fE (eo r.right))).size≤S)
   (hK:(2*S*(w.length+1+2)+66)*(2*S*(w.length+1+2)+66)≤274877906000):aq Tryz.prog 120 [bm r,ints w] (.fresh 3 ((bp r w).map int)):=by
 have h1r:r.left.size≤1099511627776:=ace
 have h2r:r.right.size≤1099511627776:=ace
 have h3r:(eo r.right).size≤2097152:=by have:=Eh r.right;omega
 refine w5 VL (ZZ J) fun w0 M0 aa hmd=>?_
 refine c6 [2,6] [1,2,21] [] ?_
 refine oN J J J J J (x5 hl hd h1r h2r) ?_
 refine wS [4013] [1,2,5,27] [] ?_ ?_<;>intro h1'
 refine wA [10] [32] [] ?_
 refine oS J (mZ J J J J J J (fb ace) aa) J ?_
 refine wZ [8005] ?_;rotate_left
 refine wA [1] [1,2,5,27,28] [] ?_
 refine oC J J J J (vr ace) ?_
 refine wS [3004] [1,2,5,31] [] ?_ ?_<;>intro h2
 refine wA [4] [32] [] ?_
 refine oS J (mZ J J J J J J (fb ace) aa) J ?_
 refine wZ [8005] ?_;rotate_left
 have hok:=Qe (r:=r) (w:=w) (by simp_all)
 refine wZ [6,5000] ?_
 refine oS J (ql J J J J Tryz.underlying134 Xt Xu J J J (by first|(simp only[ll];omega)|omega) (by first|(simp only[ll];omega)|omega) (by first|(simp only[ll];omega)|omega) aa) J ?_
 refine wA [7] [1,2,5,7,39] [36] ?_
 refine oS J (w6 J J J J J J J (vx (r:=r.left) ace) aa) J ?_
 refine wA [1] [1,2,5,7,37] [36,40] ?_
 refine oP J (zG J J) ?_
 refine oP J (zH J J) ?_
 refine wA [0] [1,2,5,7,41,42] [36,40] ?_
 refine oS J (cM J J J J J VM J aa) J ?_
 refine wA [0] [1,2,5,7,8,41,42] [8,36,40] ?_
 refine oS J (cM J J J J J XT J aa) J ?_
 refine wA [0] [1,2,5,7,8,9,41,42] [8,9,36,40] ?_
 refine oS J (eV J J J Ry J J J J J (Bo J) J aa) J ?_
 refine wA [0] [1,2,5,7,8,9,42] [8,9,36,40] ?_
 refine oS J (eV J J J UG J J J J J (Bo J) J aa) J ?_
 refine wA [4] [1,2,5,7,8,9] [8,9,36,40] ?_
 refine oP J (ae J l9 J J J) ?_
 refine oS J (aO [(1000000,40)] J J J J J J J (gd (r:=r.left) (v:=[]) (x:=62) Vr hK (by simp)) ⟨.inr (.inl ⟨_,rfl,rfl⟩),.inl J,trivial⟩ ⟨rfl,trivial⟩ J J J J J aa) J ?_
 refine wA [6,4] [1,2,5,7,8,9,45,46,47] [8,9,36,40] ?_
 refine lp (fun zm zs=>∃i:Nat,zm=w.length-i∧(i≤w.length)∧zs=⟨120,[(1,vvz (ints w)),(2,vvz (D2 r)),(5,vvz (Ti r)),(7,.own 36),(8,.pbox 8 0),(9,.pbox 9 0),(45,vvz (ints w)),(46,vvw (int w.length)),(47,vvw (int i))],[(8,.box 259 [.fn 227 [.bx 40]]),(9,.box 50 [.fn 228 [.bx 40]]),(36,.arr 4 (Gq r w i)),(40,.box 87 [vvw (int ((atR r.left (62 :: w.take i))).kind),vvw (ints ((atR r.left (62 :: w.take i))).syms),vvw (.sl (Rx.gi ((atR r.left (62 :: w.take i))).kids))])]⟩) ?_ ?_
 exact⟨_,0,rfl,Z5 _,by rw[VH];rfl⟩
 rintro zm zs ⟨i,rfl,aZ,rfl⟩
 refine wS [3006] [1,2,5,7,8,9,45,46,47,48] [8,9,36,40] ?_ ?_<;>intro h3
 refine wA [8,9] [1,2,5,7,8,9,11,45,46,47,52,53] [8,9,36,40] ?_
 refine oP J (ae J JB J J J) ?_
 refine oS J (aO [(1000000,40)] J J J J J J J (jh (r:=r.left) (v:=62 :: w.take i) Vr hK (by rw[Z2,aaa];omega)) ⟨.inl J,trivial⟩ ⟨rfl,trivial⟩ J J J J J aa) J ?_
 refine wA [0] [1,2,5,7,8,9,11,45,46,47,52,53,55] [8,9,36,40] ?_
 refine oP J (aD J Tryz.underlying134 j4 J J J (by rw[Qb];omega)) ?_
 refine oS J (ay J J J j4 J J (ix (by rw[aai];omega)) J J (.inl J) J (ZZ J) aa) J ?_
 refine wA [3] [1,2,5,7,8,9,11,45,46,47] [8,9,36,40] ?_
 refine oP J (ae J l9 J J J) ?_
 refine wA [1] [1,2,5,7,8,9,45,46,47,57,58] [8,9,36,40] ?_
 refine oS J (aO [(1000000,40)] J J J J J J J (gd (r:=r.left) (v:=62 :: w.take i) (x:=w.getD i default) Vr hK (by rw[Z2,aaa];omega)) ⟨.inl J,.inl J,trivial⟩ ⟨rfl,trivial⟩ J J J J J aa) J ?_
 refine wA [4,9002] [1,2,5,7,8,9,45,46,47] [8,9,36,40] ?_
 exact⟨_,⟨i+1,rfl,ace,by rw[←Qc ace,take_succ ace];rfl⟩,ace⟩
 refine wA [7] [1,2,5,7,8,9] [8,9,36,40] ?_
 obtain rfl:i=w.length:=ace
 refine wZ [2,5000] ?_
 refine oS J (ql J J J J Tryz.underlying134 Xt Xu J J J (by first|(simp only[ll];omega)|omega) (by first|(simp only[ll];omega)|omega) (by first|(simp only[ll];omega)|omega) aa) J ?_
 refine wA [8] [1,5,7,8,9,12,66] [8,9,12,36,40,63] ?_
 refine oC J J J J (JR (r:=r.right) ace) ?_
 refine oS J (w6 J J J J J J J (vx (r:=eo r.right) ace) aa) J ?_
 refine wA [1] [1,5,7,8,9,12,64] [8,9,12,36,40,63,68] ?_
 refine oP J (zG J J) ?_
 refine oP J (zH J J) ?_
 refine wA [0] [1,5,7,8,9,12,69,70] [8,9,12,36,40,63,68] ?_
 refine oS J (eV J J J Ry J J J J J (Bo J) J aa) J ?_
 refine wA [0] [1,5,7,8,9,12,70] [8,9,12,36,40,63,68] ?_
 refine oS J (eV J J J UG J J J J J (Bo J) J aa) J ?_
 refine wA [4] [1,5,7,8,9,12] [8,9,12,36,63,68] ?_
 refine oP J (ae J l9 J J J) ?_
 refine oS J (aO [(1000000,68)] J J J J J J J (gd (r:=eo r.right) (v:=[]) (x:=62) wu hK (by simp)) ⟨.inr (.inl ⟨_,rfl,rfl⟩),.inl J,trivial⟩ ⟨rfl,trivial⟩ J J J J J aa) J ?_
 refine wA [6] [1,5,7,8,9,12,73] [8,9,12,36,63,68] ?_
 refine oN J J J J J (JW) ?_
 refine wA [3] [1,5,7,8,9,12,74] [8,9,12,36,63,68] ?_
 rw[show List.replicate (Int.toNat (w.length:Int)) (AV.sc (.bool false))=B4 r w 0 from VI.symm,←XQ (r:=eo r.right) (w:=w)]
 refine WZ [(5,63),(1000000,68),(1000001,8),(1000002,9),(1000003,12)] (Gt r w 0) (Gt r w w.length) [8,9,12] [.bx 1000001,.bx 1000002,.bx 1000003] hmd aa (fun zl zr q1 q2 q3 q4 q5 q6=>JX (r:=r) ace (fun k hk=>Be (n:=120) (p:=75) (q:=76) (ts:=[8,9,12]) q1 q2 q3 q4 q5 q6 J (fun w0 M0 aa hmd0=>?_))) J J J ⟨.inl J,trivial⟩ ⟨.inl J,.inl J,.inl J,trivial⟩ ⟨rfl,rfl,rfl,rfl,rfl,trivial⟩ J J J J J ?_
 refine zM [8] ?_
 intro w0 M0 aa hmd0
 refine c6 [2] [8,9,12,13,14] [5,1000000,1000001,1000002,1000003] ?_
 refine tL mixed acf _ J ?_
 refine A0 acf (bO (n:=6) acf ?_)
 refine wO (i:=0) (j:=1) (k:=2) acf J J J J J J (aL J J (ae J ke J J J)) (aL J J (af J J)) (aL J J (ae J JB J J J)) ?_ ?_ ?_
 refine eJ (i:=1) (j:=2) acf J J J J (aL J J (af J J)) (aL J J (ae J JB J J J)) ?_ ?_
 refine aH (i:=2) acf J J (aL J J (ae J JB J J J)) ?_
 refine aH (i:=3) acf J J (aO [] J J J J J J J (jh (r:=eo r.right) (v:=62 :: (w.drop (w.length-k)).reverse) wu hK (by rw[Z2,aaD,aad];omega)) ⟨.inl J,trivial⟩ ⟨rfl,trivial⟩ J J J J J aa) ?_
 refine aH (i:=4) acf J J (aL J J (aD J Tryz.underlying134 j4 J J J (by rw[jg];omega))) ?_
 refine aH (i:=5) acf J J (ay J J J j4 J J (ix (by rw[aai];omega)) J J (.inl J) J (ZZ J) aa) ?_
 refine bg acf ?_
 refine jl [2] [8,14] [5,1000000,1000001,1000002,1000003] ?_
 refine oP J (ae J l9 J J J) ?_
 refine wA [1] [82,83] [5,1000000,1000001,1000002,1000003] ?_
 refine oS J (aO [] J J J J J J J (gd (r:=eo r.right) (v:=62 :: (w.drop (w.length-k)).reverse) (x:=w.getD ((w.length:Int)-1-(k:Int)).toNat default) wu hK (by rw[Z2,aaD,aad];omega)) ⟨.inl J,.inl J,trivial⟩ ⟨rfl,trivial⟩ J J J J J aa) J ?_
 refine wZ [2] ?_
 refine cR (o1:=[(5,_),(1000000,_),(1000001,_),(1000002,_),(1000003,_)]) ⟨rfl,rfl,rfl,rfl,rfl,trivial⟩ ?_;rotate_left
 refine eJ (i:=1) (j:=3) acf J J J J (aL J J (af J J)) (aO [] J J J J J J J (jh (r:=eo r.right) (v:=62 :: (w.drop (w.length-k)).reverse) wu hK (by rw[Z2,aaD,aad];omega)) ⟨.inl J,trivial⟩ ⟨rfl,trivial⟩ J J J J J aa) ?_ ?_
 refine aH (i:=3) acf J J (aO [] J J J J J J J (jh (r:=eo r.right) (v:=62 :: (w.drop (w.length-k)).reverse) wu hK (by rw[Z2,aaD,aad];omega)) ⟨.inl J,trivial⟩ ⟨rfl,trivial⟩ J J J J J aa) ?_
 refine aH (i:=4) acf J J (aL J J (aD J Tryz.underlying134 j4 J J J (by rw[jg];omega))) ?_
 refine aH (i:=5) acf J J (ay J J J j4 J J (ix (by rw[aai];omega)) J J (.inl J) J (ZZ J) aa) ?_
 refine bg acf ?_
 refine jl [2] [8,14] [5,1000000,1000001,1000002,1000003] ?_
 refine oP J (ae J l9 J J J) ?_
 refine wA [1] [82,83] [5,1000000,1000001,1000002,1000003] ?_
 refine oS J (aO [] J J J J J J J (gd (r:=eo r.right) (v:=62 :: (w.drop (w.length-k)).reverse) (x:=w.getD ((w.length:Int)-1-(k:Int)).toNat default) wu hK (by rw[Z2,aaD,aad];omega)) ⟨.inl J,.inl J,trivial⟩ ⟨rfl,trivial⟩ J J J J J aa) J ?_
 refine wZ [2] ?_
 refine cR (o1:=[(5,_),(1000000,_),(1000001,_),(1000002,_),(1000003,_)]) ⟨rfl,rfl,rfl,rfl,rfl,trivial⟩ ?_;rotate_left
 refine xe 1 ?_
 refine aH (i:=4) acf J J (aL J J (aD J Tryz.underlying134 j4 J J J (by rw[jg];omega))) ?_
 refine aH (i:=5) acf J J (ay J J J j4 J J (ix (by rw[aai];omega)) J J (.inl J) J (ZZ J) aa) ?_
 refine bg acf ?_
 refine jl [2] [8,14] [5,1000000,1000001,1000002,1000003] ?_
 refine oP J (ae J l9 J J J) ?_
 refine wA [1] [82,83] [5,1000000,1000001,1000002,1000003] ?_
 refine oS J (aO [] J J J J J J J (gd (r:=eo r.right) (v:=62 :: (w.drop (w.length-k)).reverse) (x:=w.getD ((w.length:Int)-1-(k:Int)).toNat default) wu hK (by rw[Z2,aaD,aad];omega)) ⟨.inl J,.inl J,trivial⟩ ⟨rfl,trivial⟩ J J J J J aa) J ?_
 refine wZ [2] ?_
 refine cR (o1:=[(5,_),(1000000,_),(1000001,_),(1000002,_),(1000003,_)]) ⟨rfl,rfl,rfl,rfl,rfl,trivial⟩ ?_;rotate_left
 refine eJ (i:=0) (j:=2) acf J J J J (aL J J (ae J ke J J J)) (aL J J (ae J JB J J J)) ?_ ?_
 refine aH (i:=2) acf J J (aL J J (ae J JB J J J)) ?_
 refine aH (i:=3) acf J J (aO [] J J J J J J J (jh (r:=eo r.right) (v:=62 :: (w.drop (w.length-k)).reverse) wu hK (by rw[Z2,aaD,aad];omega)) ⟨.inl J,trivial⟩ ⟨rfl,trivial⟩ J J J J J aa) ?_
 refine aH (i:=4) acf J J (aL J J (aD J Tryz.underlying134 j4 J J J (by rw[jg];omega))) ?_
 refine aH (i:=5) acf J J (ay J J J j4 J J (ix (by rw[aai];omega)) J J (.inl J) J (ZZ J) aa) ?_
 refine bg acf ?_
 refine jl [2] [8,14] [5,1000000,1000001,1000002,1000003] ?_
 refine oP J (ae J l9 J J J) ?_
 refine wA [1] [82,83] [5,1000000,1000001,1000002,1000003] ?_
 refine oS J (aO [] J J J J J J J (gd (r:=eo r.right) (v:=62 :: (w.drop (w.length-k)).reverse) (x:=w.getD ((w.length:Int)-1-(k:Int)).toNat default) wu hK (by rw[Z2,aaD,aad];omega)) ⟨.inl J,.inl J,trivial⟩ ⟨rfl,trivial⟩ J J J J J aa) J ?_
 refine wZ [2] ?_
 refine cR (o1:=[(5,_),(1000000,_),(1000001,_),(1000002,_),(1000003,_)]) ⟨rfl,rfl,rfl,rfl,rfl,trivial⟩ ?_;rotate_left
 refine eJ (i:=0) (j:=3) acf J J J J (aL J J (ae J ke J J J)) (aO [] J J J J J J J (jh (r:=eo r.right) (v:=62 :: (w.drop (w.length-k)).reverse) wu hK (by rw[Z2,aaD,aad];omega)) ⟨.inl J,trivial⟩ ⟨rfl,trivial⟩ J J J J J aa) ?_ ?_
 refine aH (i:=3) acf J J (aO [] J J J J J J J (jh (r:=eo r.right) (v:=62 :: (w.drop (w.length-k)).reverse) wu hK (by rw[Z2,aaD,aad];omega)) ⟨.inl J,trivial⟩ ⟨rfl,trivial⟩ J J J J J aa) ?_
 refine aH (i:=4) acf J J (aL J J (aD J Tryz.underlying134 j4 J J J (by rw[jg];omega))) ?_
 refine aH (i:=5) acf J J (ay J J J j4 J J (ix (by rw[aai];omega)) J J (.inl J) J (ZZ J) aa) ?_
 refine bg acf ?_
 refine jl [2] [8,14] [5,1000000,1000001,1000002,1000003] ?_
 refine oP J (ae J l9 J J J) ?_
 refine wA [1] [82,83] [5,1000000,1000001,1000002,1000003] ?_
 refine oS J (aO [] J J J J J J J (gd (r:=eo r.right) (v:=62 :: (w.drop (w.length-k)).reverse) (x:=w.getD ((w.length:Int)-1-(k:Int)).toNat default) wu hK (by rw[Z2,aaD,aad];omega)) ⟨.inl J,.inl J,trivial⟩ ⟨rfl,trivial⟩ J J J J J aa) J ?_
 refine wZ [2] ?_
 refine cR (o1:=[(5,_),(1000000,_),(1000001,_),(1000002,_),(1000003,_)]) ⟨rfl,rfl,rfl,rfl,rfl,trivial⟩ ?_;rotate_left
 refine aH (i:=0) acf J J (aL J J (ae J ke J J J)) ?_
 refine aH (i:=4) acf J J (aL J J (aD J Tryz.underlying134 j4 J J J (by rw[jg];omega))) ?_
 refine aH (i:=5) acf J J (ay J J J j4 J J (ix (by rw[aai];omega)) J J (.inl J) J (ZZ J) aa) ?_
 refine bg acf ?_
 refine jl [2] [8,14] [5,1000000,1000001,1000002,1000003] ?_
 refine oP J (ae J l9 J J J) ?_
 refine wA [1] [82,83] [5,1000000,1000001,1000002,1000003] ?_
 refine oS J (aO [] J J J J J J J (gd (r:=eo r.right) (v:=62 :: (w.drop (w.length-k)).reverse) (x:=w.getD ((w.length:Int)-1-(k:Int)).toNat default) wu hK (by rw[Z2,aaD,aad];omega)) ⟨.inl J,.inl J,trivial⟩ ⟨rfl,trivial⟩ J J J J J aa) J ?_
 refine wZ [2] ?_
 refine cR (o1:=[(5,_),(1000000,_),(1000001,_),(1000002,_),(1000003,_)]) ⟨rfl,rfl,rfl,rfl,rfl,trivial⟩ ?_;rotate_left
 refine wO (i:=0) (j:=1) (k:=3) acf J J J J J J (aL J J (ae J ke J J J)) (aL J J (af J J)) (aO [] J J J J J J J (jh (r:=eo r.right) (v:=62 :: (w.drop (w.length-k)).reverse) wu hK (by rw[Z2,aaD,aad];omega)) ⟨.inl J,trivial⟩ ⟨rfl,trivial⟩ J J J J J aa) ?_ ?_ ?_
 refine eJ (i:=1) (j:=3) acf J J J J (aL J J (af J J)) (aO [] J J J J J J J (jh (r:=eo r.right) (v:=62 :: (w.drop (w.length-k)).reverse) wu hK (by rw[Z2,aaD,aad];omega)) ⟨.inl J,trivial⟩ ⟨rfl,trivial⟩ J J J J J aa) ?_ ?_
 refine aH (i:=3) acf J J (aO [] J J J J J J J (jh (r:=eo r.right) (v:=62 :: (w.drop (w.length-k)).reverse) wu hK (by rw[Z2,aaD,aad];omega)) ⟨.inl J,trivial⟩ ⟨rfl,trivial⟩ J J J J J aa) ?_
 refine aH (i:=4) acf J J (aL J J (aD J Tryz.underlying134 j4 J J J (by rw[jg];omega))) ?_
 refine aH (i:=5) acf J J (ay J J J j4 J J (ix (by rw[aai];omega)) J J (.inl J) J (ZZ J) aa) ?_
 refine bg acf ?_
 refine jl [2] [8,14] [5,1000000,1000001,1000002,1000003] ?_
 refine oP J (ae J l9 J J J) ?_
 refine wA [1] [82,83] [5,1000000,1000001,1000002,1000003] ?_
 refine oS J (aO [] J J J J J J J (gd (r:=eo r.right) (v:=62 :: (w.drop (w.length-k)).reverse) (x:=w.getD ((w.length:Int)-1-(k:Int)).toNat default) wu hK (by rw[Z2,aaD,aad];omega)) ⟨.inl J,.inl J,trivial⟩ ⟨rfl,trivial⟩ J J J J J aa) J ?_
 refine wZ [2] ?_
 refine cR (o1:=[(5,_),(1000000,_),(1000001,_),(1000002,_),(1000003,_)]) ⟨rfl,rfl,rfl,rfl,rfl,trivial⟩ ?_;rotate_left
 refine xe 1 ?_
 refine aH (i:=4) acf J J (aL J J (aD J Tryz.underlying134 j4 J J J (by rw[jg];omega))) ?_
 refine aH (i:=5) acf J J (ay J J J j4 J J (ix (by rw[aai];omega)) J J (.inl J) J (ZZ J) aa) ?_
 refine bg acf ?_
 refine jl [2] [8,14] [5,1000000,1000001,1000002,1000003] ?_
 refine oP J (ae J l9 J J J) ?_
 refine wA [1] [82,83] [5,1000000,1000001,1000002,1000003] ?_
 refine oS J (aO [] J J J J J J J (gd (r:=eo r.right) (v:=62 :: (w.drop (w.length-k)).reverse) (x:=w.getD ((w.length:Int)-1-(k:Int)).toNat default) wu hK (by rw[Z2,aaD,aad];omega)) ⟨.inl J,.inl J,trivial⟩ ⟨rfl,trivial⟩ J J J J J aa) J ?_
 refine wZ [2] ?_
 refine cR (o1:=[(5,_),(1000000,_),(1000001,_),(1000002,_),(1000003,_)]) ⟨rfl,rfl,rfl,rfl,rfl,trivial⟩ ?_;rotate_left
 refine eJ (i:=0) (j:=3) acf J J J J (aL J J (ae J ke J J J)) (aO [] J J J J J J J (jh (r:=eo r.right) (v:=62 :: (w.drop (w.length-k)).reverse) wu hK (by rw[Z2,aaD,aad];omega)) ⟨.inl J,trivial⟩ ⟨rfl,trivial⟩ J J J J J aa) ?_ ?_
 refine aH (i:=3) acf J J (aO [] J J J J J J J (jh (r:=eo r.right) (v:=62 :: (w.drop (w.length-k)).reverse) wu hK (by rw[Z2,aaD,aad];omega)) ⟨.inl J,trivial⟩ ⟨rfl,trivial⟩ J J J J J aa) ?_
 refine aH (i:=4) acf J J (aL J J (aD J Tryz.underlying134 j4 J J J (by rw[jg];omega))) ?_
 refine aH (i:=5) acf J J (ay J J J j4 J J (ix (by rw[aai];omega)) J J (.inl J) J (ZZ J) aa) ?_
 refine bg acf ?_
 refine jl [2] [8,14] [5,1000000,1000001,1000002,1000003] ?_
 refine oP J (ae J l9 J J J) ?_
 refine wA [1] [82,83] [5,1000000,1000001,1000002,1000003] ?_
 refine oS J (aO [] J J J J J J J (gd (r:=eo r.right) (v:=62 :: (w.drop (w.length-k)).reverse) (x:=w.getD ((w.length:Int)-1-(k:Int)).toNat default) wu hK (by rw[Z2,aaD,aad];omega)) ⟨.inl J,.inl J,trivial⟩ ⟨rfl,trivial⟩ J J J J J aa) J ?_
 refine wZ [2] ?_
 refine cR (o1:=[(5,_),(1000000,_),(1000001,_),(1000002,_),(1000003,_)]) ⟨rfl,rfl,rfl,rfl,rfl,trivial⟩ ?_;rotate_left
 refine aH (i:=0) acf J J (aL J J (ae J ke J J J)) ?_
 refine aH (i:=4) acf J J (aL J J (aD J Tryz.underlying134 j4 J J J (by rw[jg];omega))) ?_
 refine aH (i:=5) acf J J (ay J J J j4 J J (ix (by rw[aai];omega)) J J (.inl J) J (ZZ J) aa) ?_
 refine bg acf ?_
 refine jl [2] [8,14] [5,1000000,1000001,1000002,1000003] ?_
 refine oP J (ae J l9 J J J) ?_
 refine wA [1] [82,83] [5,1000000,1000001,1000002,1000003] ?_
 refine oS J (aO [] J J J J J J J (gd (r:=eo r.right) (v:=62 :: (w.drop (w.length-k)).reverse) (x:=w.getD ((w.length:Int)-1-(k:Int)).toNat default) wu hK (by rw[Z2,aaD,aad];omega)) ⟨.inl J,.inl J,trivial⟩ ⟨rfl,trivial⟩ J J J J J aa) J ?_
 refine wZ [2] ?_
 refine cR (o1:=[(5,_),(1000000,_),(1000001,_),(1000002,_),(1000003,_)]) ⟨rfl,rfl,rfl,rfl,rfl,trivial⟩ ?_;rotate_left
 refine eJ (i:=0) (j:=1) acf J J J J (aL J J (ae J ke J J J)) (aL J J (af J J)) ?_ ?_
 refine xe 1 ?_
 refine aH (i:=4) acf J J (aL J J (aD J Tryz.underlying134 j4 J J J (by rw[jg];omega))) ?_
 refine aH (i:=5) acf J J (ay J J J j4 J J (ix (by rw[aai];omega)) J J (.inl J) J (ZZ J) aa) ?_
 refine bg acf ?_
 refine jl [2] [8,14] [5,1000000,1000001,1000002,1000003] ?_
 refine oP J (ae J l9 J J J) ?_
 refine wA [1] [82,83] [5,1000000,1000001,1000002,1000003] ?_
 refine oS J (aO [] J J J J J J J (gd (r:=eo r.right) (v:=62 :: (w.drop (w.length-k)).reverse) (x:=w.getD ((w.length:Int)-1-(k:Int)).toNat default) wu hK (by rw[Z2,aaD,aad];omega)) ⟨.inl J,.inl J,trivial⟩ ⟨rfl,trivial⟩ J J J J J aa) J ?_
 refine wZ [2] ?_
 refine cR (o1:=[(5,_),(1000000,_),(1000001,_),(1000002,_),(1000003,_)]) ⟨rfl,rfl,rfl,rfl,rfl,trivial⟩ ?_;rotate_left
 refine aH (i:=0) acf J J (aL J J (ae J ke J J J)) ?_
 refine aH (i:=4) acf J J (aL J J (aD J Tryz.underlying134 j4 J J J (by rw[jg];omega))) ?_
 refine aH (i:=5) acf J J (ay J J J j4 J J (ix (by rw[aai];omega)) J J (.inl J) J (ZZ J) aa) ?_
 refine bg acf ?_
 refine jl [2] [8,14] [5,1000000,1000001,1000002,1000003] ?_
 refine oP J (ae J l9 J J J) ?_
 refine wA [1] [82,83] [5,1000000,1000001,1000002,1000003] ?_
 refine oS J (aO [] J J J J J J J (gd (r:=eo r.right) (v:=62 :: (w.drop (w.length-k)).reverse) (x:=w.getD ((w.length:Int)-1-(k:Int)).toNat default) wu hK (by rw[Z2,aaD,aad];omega)) ⟨.inl J,.inl J,trivial⟩ ⟨rfl,trivial⟩ J J J J J aa) J ?_
 refine wZ [2] ?_
 refine cR (o1:=[(5,_),(1000000,_),(1000001,_),(1000002,_),(1000003,_)]) ⟨rfl,rfl,rfl,rfl,rfl,trivial⟩ ?_;rotate_left
 refine wA [3] [1,5,7,12] [12,36,63] ?_
 refine aS 120 [(1,_),(5,_),(7,_),(12,_)] [] aa J ⟨.inl J,.inl J,.inr ⟨_,_,rfl,rfl,rfl⟩,.inr ⟨_,_,rfl,rfl,rfl⟩,trivial⟩ trivial ?_
 refine gS [1001,6,4] [5,7,12,15,85,86,87] [15] ?_
 have hout:=Ek (r:=r) (w:=w) hok.1
 rw[U2 hok.1]
 refine lp (fun zm zs=>∃i:Nat,zm=w.length-i∧(i≤w.length)∧zs=⟨120,[(5,vvz (.mp (r.pairs.map fun p=>nd p.src) (r.pairs.map fun p=>ints p.dst))),(7,vvw (.sl (Gq r w w.length))),(12,vvw (.pc [.sl (B4 r w w.length)] 0)),(15,.own 15),(85,vvz (ints w)),(86,vvw (int w.length)),(87,vvw (int i))],[(15,.arr 3 ((JV r w i).map int))]⟩) ?_ ?_
 exact⟨_,0,rfl,Z5 _,rfl⟩
 rintro zm zs ⟨i,rfl,fU,rfl⟩
 have hr:=hout i
 refine wS [3006] [5,7,12,15,85,86,87,88] [15] ?_ ?_<;>intro h4
 refine wA [8,9] [5,7,12,15,16,17,85,86,87,93,94] [15] ?_
 refine oP J (CS J Tryz.underlying245 Tryz.underlying3 Xw J J J J (JT r) (Gr r _) (JU r _)) ?_
 refine wS [4011] [5,7,12,15,16,17,18,85,86,87,99] [15] ?_ ?_<;>intro h5'
 refine wA [2] [5,7,12,15,16,17,18,85,86,87,99,100,101] [15] ?_
 refine oP J (ee J Tryz.underlying134 j4 J J (by rw[aai];omega) (fun _=>rfl)) ?_
 refine wS [4003] [5,7,12,15,16,17,18,85,86,87,105] [15] ?_ ?_<;>intro h6'
 refine wA [2] [5,7,12,15,17,18,85,86,87,105,106,107] [15] ?_
 refine oP J (ee J Tryz.underlying134 j4 J J (by rw[aai];omega) (fun _=>rfl)) ?_
 refine wS [3004] [5,7,12,15,17,18,85,86,87,110] [15] ?_ ?_<;>intro h7
 have hx1:=hr.2 (w.getD i default)
 rw[Qf (r:=r) (x:=w.getD i default) ach]
 refine wA [1004,5,9002] [5,7,12,15,85,86,87] [15] ?_;rotate_left
 refine wA [4,1000,5,9002] [5,7,12,15,85,86,87] [15] ?_;rotate_left
 refine wA [11,1000,5,9002] [5,7,12,15,85,86,87] [15] ?_;rotate_left
 refine wA [17,1000,5,9002] [5,7,12,15,85,86,87] [15] ?_;rotate_left
 refine wZ [8013] ?_;rotate_left
 all_goals first
  | (
    first|(rw[AH (by simp_all)];first|done|rfl)|(rw[yd (i:=i) hok ace];first|done|rfl);done)
  | (
    unfold Gt;rw[←Qd ace,←XR ace];rfl;done)
  | (
    refine⟨_,⟨i+1,rfl,ace,?_⟩,ace⟩
    rw[AG,Z8];first|(rw[Ei (by simp_all) (by simp_all [B5]) (by simp_all [B5])];rfl)|(rw[Ej (by simp_all [B5])];rfl);done)
end Go.Proofs.YtlapahnodhmcpaaGreat
