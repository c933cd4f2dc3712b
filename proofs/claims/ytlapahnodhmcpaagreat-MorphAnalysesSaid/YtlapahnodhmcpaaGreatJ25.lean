/-
  Part of the proof.
-/
import Derived.Test.YtlapahnodhmcpaaGreatJ0
import Derived.Test.YtlapahnodhmcpaaGreatJ24
import Derived.Test.YtlapahnodhmcpaaGreatJ19
import Derived.Test.YtlapahnodhmcpaaGreatJ6
import Derived.Test.YtlapahnodhmcpaaGreatJ16
import Derived.Test.YtlapahnodhmcpaaGreatJ12
set_option linter.unusedVariables false
set_option linter.unusedSectionVars false
set_option linter.unusedSimpArgs false
set_option maxRecDepth 100000
set_option maxHeartbeats 40000000
namespace Go.Wf
open Go.Am Go.Wb Go.Wc Go.We
structure eH where
 src:Int
 dst:List Int
 deriving Inhabited,DecidableEq
def x3 (p:eH):AV:=.agg [int p.src,ints p.dst]
structure aG where
 name:List UInt8
 pairs:List eH
 left:Rx
 right:Rx
 deriving Inhabited
def HO (r:aG):List AV:=[aj r.name,.sl (r.pairs.map x3),int r.left.kind,ints r.left.syms,.sl (Rx.gi r.left.kids),int r.right.kind,ints r.right.syms,.sl (Rx.gi r.right.kids)]
def bm (r:aG):AV:=.agg (HO r)
def JH (x:Int):Bool:=(decide (0≤x)&&decide (x<60))||decide (x=63)
def fD (w:List Int):Bool:=w.all JH
def js (p:eH):Bool:=JH p.src&&decide (p.dst.length≤3)&&fD p.dst
def bI (r:aG):Bool:=decide (r.pairs.length≤60)&&aQ r.left&&aQ r.right&&r.pairs.all js&&decide ((r.pairs.map (·.src)).Nodup)
def la (l:List eH)(x:Int):Option eH:=l.find? fun p=>decide (p.src=x)
theorem Gc {x:Int}(h:JH x=true):0≤x∧x<64:=by
 unfold JH at h
 rw[aaO,aae,decide_eq_true_eq,decide_eq_true_eq,decide_eq_true_eq] at h
 omega
def anyS:List Int:=(List.range 64).map fun i:Nat=>(i:Int)
def jH:Rx:=.mk 5 [] [.mk 2 anyS []]
theorem HP {x:Int}:x∈anyS↔0≤x∧x<64:=by
 unfold anyS
 rw[aao]
 constructor
 ·rintro⟨i,hi,rfl⟩;have:=aap.1 hi;omega
 ·rintro⟨h0,h1⟩;exact⟨x.toNat,aap.2 ace,ace⟩
theorem JI:aQ jH=true:=by decide +kernel
theorem Nn:jH.size≤70:=by decide +kernel
theorem P1 (w:List Int):e7 jH w↔∀x∈w,0≤x∧x<64:=by
 rw[vj rfl]
 show Dy [_] w↔_
 rw[l3]
 constructor
 · intro h
   induction h with
   | nil=>intro x hx;cases hx
   | @cons u v h1 _ ih =>
     intro x hx
     rcases aaC.1 hx with hx|hx
     · obtain ⟨a, rfl, ha⟩ := (nF rfl u).1 h1
       rw[aag.1 hx]
       exact HP.1 ha
     · exact ih x hx
 · intro h
   induction w with
   | nil=>exact .nil
   | cons a w ih=>exact .cons (u:=[a]) ((nF rfl [a]).2 ⟨a,rfl,HP.2 (h a Z7)⟩) (ih fun x hx=>h x (aac _ hx))
def fE (r:Rx):Rx:=.mk 3 [] [jH,r]
theorem JJ {r:Rx}(h:aQ r=true):aQ (fE r)=true:=by
 rw[lE (r:=fE r) (.inl rfl)]
 show(_&&_)=true
 show(decide (([]:List Int).length=0)&&!([jH,r].any fun x=>!aQ x))=true
 simp[JI,h]
theorem P2 {r:Rx}{w:List Int}(hw:∀x∈w,0≤x∧x<64):e7 (fE r) w↔∃k,k≤w.length∧e7 r (w.drop k):=by
 rw[vi rfl]
 show j7 [jH,r] w↔_
 rw[dM]
 constructor
 ·rintro⟨u,v,rfl,_,hv⟩
  rw[iX] at hv
  exact⟨u.length,by simp,by rw[List.drop_left];exact hv⟩
 ·rintro⟨k,hk,h⟩
  exact⟨w.take k,w.drop k,(aa3 k w).symm,(P1 _).2 fun x hx=>hw x (aa6 hx),(iX _ _).2 h⟩
def atR (r:Rx)(v:List Int):Rx:=Dv (dy (fE r)) v
theorem No (r:Rx)(v:List Int):Nf (atR r v):=Ab (qB _) v
theorem D0 (r:Rx)(v:List Int)(x:Int):atR r (v++[x])=dR x (atR r v):=qC _ v x
theorem HQ {r:Rx}(hr:aQ r=true){v:List Int}(hv:∀x∈v,0≤x∧x<64):cP (atR r v)=true↔∃k,k≤v.length∧e7 r (v.drop k):=by
 have h:=lH (JJ hr) v
 rw[xJ] at h
 exact h.trans (P2 hv)
def vp (r:Rx)(w:List Int)(i:Nat):Bool:=cP (atR r (62 :: w.take i))
def oJ (r:Rx)(w:List Int)(i:Nat):Bool:=cP (atR (eo r) (62 :: (w.drop (i+1)).reverse))
def bp (r:aG)(w:List Int):List Int:=if bI r&&fD w then
   (List.range w.length).flatMap fun i=>match la r.pairs (w.getD i default) with
     | some p=>if vp r.left w i&&oJ r.right w i then p.dst else[w.getD i default]
     | none=>[w.getD i default]
 else w
end Go.Wf
namespace Go.Proofs.YtlapahnodhmcpaaGreat
open Go.Am Go.Wb Go.Wc Go.We Go.Wf
noncomputable def HR (r:Rx)(w:List Int)(i:Nat):Bool:=(List.range ((62 :: w.take i).length+1)).any fun k=>Aq r ((62 :: w.take i).drop k)
noncomputable def BX (r:Rx)(w:List Int)(i:Nat):Bool:=(List.range ((w.drop (i+1)++[62]).length+1)).any fun k=>Aq r ((w.drop (i+1)++[62]).take k)
noncomputable def uA (r:aG)(w:List Int):List Int:=if bI r&&fD w then
  (List.range w.length).flatMap fun i => match la r.pairs (w.getD i default) with
   | some p=>if HR r.left w i&&BX r.right w i then p.dst else[w.getD i default]
   | none=>[w.getD i default]
 else w
theorem left_eq {r:Rx}(hr:aQ r=true){w:List Int}(hw:fD w=true)(i:Nat):vp r w i=HR r w i:=by
 have hv:∀x∈62 :: w.take i,0≤x∧x<64:=fun x hx=>by
  rcases aah.1 hx with rfl|hx
  ·decide
  ·exact Gc (aam.1 hw x (aa6 hx))
 refine abE.2 ((HQ hr hv).trans ?_)
 unfold HR
 rw[aay]
 constructor
 ·rintro⟨k,hk,h⟩
  exact⟨k,aap.2 ace,by rw[←pU];exact(lH hr _).2 h⟩
 ·rintro⟨k,hk,h⟩
  rw[←pU] at h
  exact⟨k,by have:=aap.1 hk;omega,(lH hr _).1 h⟩
theorem HS {r:Rx}(hr:aQ r=true)(w:List Int):e7 (eo r) w↔e7 r w.reverse:=by
 unfold eo;rw[if_pos hr];exact(Ad r hr).2 w
theorem Np {r:Rx}(hr:aQ r=true){w:List Int}(hw:fD w=true)(i:Nat):oJ r w i=BX r w i:=by
 have hv:∀x∈62 :: (w.drop (i+1)).reverse,0≤x∧x<64:=fun x hx=>by
  rcases aah.1 hx with rfl|hx
  ·decide
  ·exact Gc (aam.1 hw x (aaE (List.mem_reverse.1 hx)))
 have hrv:aQ (eo r)=true:=nC (Pa r)
 have e:(62 :: (w.drop (i+1)).reverse)=(w.drop (i+1)++[62]).reverse:=by simp
 refine abE.2 ((HQ hrv hv).trans ?_)
 unfold BX
 rw[aay,e]
 generalize w.drop (i+1)++[62]=t
 constructor
 ·rintro⟨k,hk,h⟩
  rw[HS hr,List.drop_reverse,abm] at h
  exact⟨t.length-k,aap.2 ace,by rw[←pU];exact(lH hr _).2 h⟩
 ·rintro⟨k,hk,h⟩
  rw[←pU] at h
  have hk:=aap.1 hk
  refine⟨t.length-k,by rw[aaD];omega,?_⟩
  rw[HS hr,List.drop_reverse,abm,show t.length-(t.length-k)=k by omega]
  exact(lH hr _).1 h
theorem D1 (r:aG)(w:List Int):bp r w=uA r w:=by
 unfold bp uA
 split
 ·next h =>
  rw[aae] at h
  have h1:=h.1
  unfold bI at h1
  simp only[aae] at h1
  congr 1
  funext i
  rw[left_eq h1.1.1.1.2 h.2,Np h1.1.1.2 h.2]
 ·rfl
end Go.Proofs.YtlapahnodhmcpaaGreat
namespace Go.Wf
open Go.Am Go.Wb Go.Wc Go.RowKit Go.ChangeMaps Go.MapKept
abbrev nd (x:Int):Value:=.int .i64 x
noncomputable def oz (l:List eH):Nat→List Value
 | 0=>[]
 | i+1=>Go.Am.fL (oz l i) (nd (l.getD i default).src)
noncomputable def Th (l:List eH):Nat→List AV
 | 0=>[]
 | i+1=>Go.Am.IK (oz l i) (Th l i) (nd (l.getD i default).src) (ints (l.getD i default).dst)
theorem td {x y:Int}:nd x=nd y↔x=y:=by simp[nd]
theorem uB (l:List eH):∀i,∀u∈oz l i,IsKey (.int .i64) u
 | 0,u,h=>by cases h
 | i + 1, u, h => by
   unfold oz Go.Am.fL at h
   split at h
   · exact uB l i u h
   · rw [aaC] at h
     rcases h with h|h
     · exact uB l i u h
     · simp only[aag] at h;subst h;rfl
theorem HT (l:List eH):∀i,(oz l i).length≤i
 | 0=>Z1 _
 | i + 1 => by
   have:=HT l i
   unfold oz Go.Am.fL
   split
   · omega
   · simp;omega
theorem te {l:List eH}:∀{i:Nat},i≤l.length→(oz l i).length=i→oz l i=(l.take i).map (fun p=>nd p.src)∧Th l i=(l.take i).map (fun p=>ints p.dst)∧((l.take i).map (·.src)).Nodup
 | 0,_,_=>⟨rfl,rfl,List.nodup_nil⟩
 | i + 1, hi, h => by
   have hl:=HT l i
   unfold oz Go.Am.fL at h
   unfold oz Th Go.Am.fL Go.Am.IK
   cases hp:dI (oz l i) (nd (l.getD i default).src) with
   | some j=>rw[hp] at h;simp only[] at h;omega
   | none =>
     rw[hp] at h
     simp only[aab,aaY] at h
     obtain⟨h1,h2,h3⟩:=te (by omega:i≤l.length) ace
     refine⟨by rw[h1,take_succ ace,Z8];rfl,by rw[h2,take_succ ace,Z8];rfl,?_⟩
     rw[take_succ ace,Z8]
     have hn:=zu.1 hp
     rw[h1] at hn
     refine List.nodup_append.2 ⟨h3,List.nodup_cons.2 ⟨abU,List.nodup_nil⟩,fun a ha b hb e=>hn ?_⟩
     obtain⟨p,hp',rfl⟩:=aao.1 ha
     exact aao.2 ⟨p,hp',by rw[td,e,aag.1 hb]⟩
theorem Nq {l:List eH}:∀{i:Nat},i≤l.length→((l.take i).map (·.src)).Nodup→(oz l i).length=i
 | 0,_,_=>rfl
 | i + 1, hi, h => by
   rw[take_succ ace,Z8] at h
   obtain⟨h1,_,h3⟩:=List.nodup_append.1 h
   have ih:=Nq (by omega:i≤l.length) h1
   obtain⟨g1,_,_⟩:=te (by omega:i≤l.length) ih
   unfold oz Go.Am.fL
   cases hp:dI (oz l i) (nd (l.getD i default).src) with
   | none=>simp;omega
   | some j =>
     have hm:=aaA (eN hp)
     rw[g1,aao] at hm
     obtain⟨x,hx,he⟩:=hm
     exact absurd (td.1 he) (h3 x.src (aao.2 ⟨x,hx,rfl⟩) (l.getD i default).src (by simp))
theorem Ar (l:List eH):decide ((oz l l.length).length=l.length)=decide ((l.map (·.src)).Nodup):=by
 refine decide_eq_decide.2 ⟨fun h=>?_,fun h=>?_⟩
 ·have:=(te (Z1 _) h).2.2
  rwa [aa1] at this
 ·exact Nq (Z1 _) (by rw[aa1];exact h)
def jf (r:aG):Bool:=decide (r.pairs.length≤60)&&aQ r.left&&aQ r.right&&r.pairs.all js
theorem uC (r:aG):bI r=(jf r&&decide ((r.pairs.map (·.src)).Nodup)):=rfl
noncomputable def Ti (r:aG):AV:=if jf r=true then .mp (oz r.pairs r.pairs.length) (Th r.pairs r.pairs.length) else .sc (.map none)
theorem RB {r:aG}(h:jf r=false):Ti r=.sc (.map none)∧bI r=false:=⟨if_neg (by rw[h];decide),by rw[uC,h];rfl⟩
theorem Gd {r:aG}(h:jf r=true):Ti r=.mp (oz r.pairs r.pairs.length) (Th r.pairs r.pairs.length)∧bI r=decide ((oz r.pairs r.pairs.length).length=r.pairs.length):=⟨if_pos h,by rw[uC,h,Ar,aaZ]⟩
theorem U2 {r:aG}(h:bI r=true):Ti r=.mp (r.pairs.map fun p=>nd p.src) (r.pairs.map fun p=>ints p.dst):=by
 rw[uC,aae] at h
 rw[(Gd h.1).1]
 have h2:(oz r.pairs r.pairs.length).length=r.pairs.length:=by
  have:=Ar r.pairs
  rw[h.2] at this
  exact of_decide_eq_true this
 obtain⟨g1,g2,_⟩:=te (Z1 _) h2
 rw[g1,g2,aa1]
theorem dT {α:Type} [Inhabited α]{l:List α}{i:Nat}(h:i<l.length):l.getD i default=l[i]:=by rw[ZY,Z3 h];rfl
theorem ba {α:Type} [Inhabited α]{l:List α}{i:Nat}(h:i<l.length):l.getD i default∈l:=by rw[dT h];exact aa4 h
theorem Ge (w:List Int):(!w.any fun x=>!JH x)=fD w:=by
 unfold fD
 rw[List.not_any_eq_all_not]
 simp
theorem As {α:Type} [Inhabited α]{p:α→Bool}{l:List α}{i:Nat}(hi:i<l.length)(h:p (l.getD i default)=false):l.all p=false:=by
 rw[List.all_eq_false]
 exact⟨_,ba hi,by rw[h];decide⟩
theorem uD {α:Type} [Inhabited α]{p:α→Bool}{l:List α}(h:∀j,j<l.length→p (l.getD j default)=true):l.all p=true:=by
 rw[aam]
 intro x hx
 obtain⟨j,hj,rfl⟩:=List.mem_iff_getElem.1 hx
 have:=h j hj
 rwa [ZY,Z3 hj] at this
end Go.Wf
namespace Go.Proofs.YtlapahnodhmcpaaGreat
open Go.Am Go.Wb Go.Wc Go.Wf
abbrev XL:=dU 4 Tryz.func84
theorem Au {l:List Int}{p:Int→Bool}{g:FuncId}{caps:List AV}(hl:l.length≤1099511627776)(hf:∀x∈l,aq Tryz.prog g ([int x]++caps) (.p (bool (p x)))):aq Tryz.prog 84 [ints l,.clo g caps] (.p (int (eB p l))):=by
 refine cF XL fun w0 M0 aa=>?_
 refine c6 [9,4] [0,1,7,8] [] ?_
 refine lp (fun zm zs=>∃k:Nat,zm=l.length-k∧(k≤l.length)∧(∀j,j<k→p (l.getD j default)=false)∧zs=⟨19,[(0,vvz (ints l)),(1,vvz (.clo g caps)),(7,vvw (int l.length)),(8,vvw (int k))],[]⟩) ?_ ?_
 exact⟨_,0,rfl,Z5 _,fun j hj=>absurd hj ace,rfl⟩
 rintro zm zs ⟨k,rfl,aZ,au,rfl⟩
 refine wS [3006] [0,1,7,8,9] [] ?_ ?_<;>intro h1
 refine wA [16,1] [0,1,5,7,8,11,15] [] ?_
 refine oC J J J J (hf _ (ba ace)) ?_
 refine wS [3002] [0,1,5,7,8,16] [] ?_ ?_<;>intro h2
 refine wZ [8013] ?_
 rw[←nt (p:=p) (l:=l) (k:=k) ace au (by simp_all)]
 refine wA [5,9002] [0,1,7,8] [] ?_
 exact⟨_,⟨k+1,rfl,ace,b7 au (by simp_all),rfl⟩,ace⟩
 refine wZ [8012] ?_
 rw[←lD (p:=p) (l:=l) (fun j hj=>au j ace)]
abbrev U3:=dU 4 Tryz.func208
theorem Av {l:List Int}{p:Int→Bool}{g:FuncId}{caps:List AV}(hl:l.length≤1099511627776)(hf:∀x∈l,aq Tryz.prog g ([int x]++caps) (.p (bool (p x)))):aq Tryz.prog 208 [ints l,.clo g caps] (.p (bool (l.any p))):=by
 refine cF U3 fun w0 M0 aa=>?_
 refine c6 [9] [5,6] [] ?_
 refine oC J J J J (Au hl hf) ?_
 refine wZ [8005] ?_
 rw[vU]
abbrev U4:=dU 2 Tryz.func169
theorem vq {x:Int}:aq Tryz.prog 169 [int x] (.p (bool (JH x))):=by
 refine cF U4 fun w0 M0 aa=>?_
 refine rM [4010] [0,5] [] ?_ ?_<;>intro h1'
 refine wS [4004] [0,9] [] ?_ ?_<;>intro h2'
 refine wZ [8007] ?_;rotate_left
 refine wZ [8007] ?_;rotate_left
 refine wZ [8011] ?_;rotate_left
 all_goals
  unfold JH;simp_all;try omega
abbrev U5:=dU 2 Tryz.func220
theorem tf {x:Int}:aq Tryz.prog 220 [int x] (.p (bool (JH x))):=by
 refine cF U5 fun w0 M0 aa=>?_
 refine rM [4010] [0,5] [] ?_ ?_<;>intro h1'
 refine wS [4004] [0,9] [] ?_ ?_<;>intro h2'
 refine wZ [8007] ?_;rotate_left
 refine wZ [8007] ?_;rotate_left
 refine wZ [8011] ?_;rotate_left
 all_goals
  unfold JH;simp_all;try omega
abbrev U6:=dU 2 Tryz.func226
theorem Gf {x:Int}:aq Tryz.prog 226 [int x] (.p (bool (!JH x))):=by
 refine cF U6 fun w0 M0 aa=>?_
 refine c6 [8] [3] [] ?_
 refine oC J J J J (vq) ?_
 refine wZ [8005] ?_
 rfl
abbrev U7:=dU 2 Tryz.func184
theorem vr {w:List Int}(hw:w.length≤1099511627776):aq Tryz.prog 184 [ints w] (.p (bool (fD w))):=by
 refine cF U7 fun w0 M0 aa=>?_
 refine c6 [8] [3] [] ?_
 refine oC J J J J (Av (p:=fun x=>!JH x) ace (fun x hx=>Gf)) ?_
 refine wZ [8005] ?_
 rw[Ge]
abbrev U8:=dU 2 Tryz.func221
theorem tg {w:List Int}(hw:w.length≤1099511627776):aq Tryz.prog 221 [ints w] (.p (bool (fD w))):=by
 refine cF U8 fun w0 M0 aa=>?_
 refine c6 [12] [0,3] [] ?_
 refine lp (fun zm zs=>∃i:Nat,zm=w.length-i∧(i≤w.length)∧(∀j,j<i→JH (w.getD j default)=true)∧zs=⟨16,[(0,vvz (ints w)),(3,vvw (int i))],[]⟩) ?_ ?_
 exact⟨_,0,rfl,Z5 _,fun j hj=>absurd hj ace,rfl⟩
 rintro zm zs ⟨i,rfl,aZ,au,rfl⟩
 refine wS [5,3003] [0,3,7] [] ?_ ?_<;>intro h1
 refine wA [9,1] [0,3,13] [] ?_
 refine oC J J J J (tf) ?_
 refine wS [3003] [0,3,15] [] ?_ ?_<;>intro h2
 refine wZ [8012] ?_;rotate_left
 refine wA [6,9002] [0,3] [] ?_
 exact⟨_,⟨i+1,rfl,ace,b7 au (by simp_all),rfl⟩,ace⟩
 refine wZ [8012] ?_;rotate_left
 all_goals
  show _=RV.p (Am.bool (w.all JH));first|(rw[As (i:=i) ace (by simp_all)];done)|(rw[uD (fun j hj=>au j ace)];done)
abbrev U9:=dU 4 Tryz.func232
theorem JK {l:List Rx}{p:Rx→Bool}{g:FuncId}(hl:l.length≤1099511627776)(hf:∀x∈l,aq Tryz.prog g [rx x] (.p (bool (p x)))):aq Tryz.prog 232 [gJ l,.clo g []] (.p (int (eB p l))):=by
 refine cF U9 fun w0 M0 aa=>?_
 refine c6 [9,4] [0,1,7,8] [] ?_
 refine lp (fun zm zs=>∃k:Nat,zm=l.length-k∧(k≤l.length)∧(∀j,j<k→p (l.getD j default)=false)∧zs=⟨19,[(0,vvz (gJ l)),(1,vvz (.clo g [])),(7,vvw (int l.length)),(8,vvw (int k))],[]⟩) ?_ ?_
 exact⟨_,0,rfl,Z5 _,fun j hj=>absurd hj ace,rfl⟩
 rintro zm zs ⟨k,rfl,aZ,au,rfl⟩
 refine wS [3006] [0,1,7,8,9] [] ?_ ?_<;>intro h1
 refine wA [16,1] [0,1,5,7,8,11,15] [] ?_
 refine oC J J J J (hf _ (aP ace)) ?_
 refine wS [3002] [0,1,5,7,8,16] [] ?_ ?_<;>intro h2
 refine wZ [8013] ?_
 rw[←nt (p:=p) (l:=l) (k:=k) ace au (by simp_all)]
 refine wA [5,9002] [0,1,7,8] [] ?_
 exact⟨_,⟨k+1,rfl,ace,b7 au (by simp_all),rfl⟩,ace⟩
 refine wZ [8012] ?_
 rw[←lD (p:=p) (l:=l) (fun j hj=>au j ace)]
abbrev Va:=dU 4 Tryz.func198
theorem gC {l:List Rx}{p:Rx→Bool}{g:FuncId}(hl:l.length≤1099511627776)(hf:∀x∈l,aq Tryz.prog g [rx x] (.p (bool (p x)))):aq Tryz.prog 198 [gJ l,.clo g []] (.p (bool (l.any p))):=by
 refine cF Va fun w0 M0 aa=>?_
 refine c6 [9] [5,6] [] ?_
 refine oC J J J J (JK hl hf) ?_
 refine wZ [8005] ?_
 rw[vU]
abbrev Vb:=dU 2 Tryz.func135
theorem JL:∀ (m:Nat)(r:Rx),r.size≤m→m≤1099511627776→aq Tryz.prog 135 [rx r] (.p (bool (cP r))):=by
 intro m
 induction m with
 | zero=>intro a hr _;have:=size_pos a;omega
 | succ m ih =>
 intro r hr hm
 have hkl:=dX r
 rw[fi r]
 refine cF Vb fun w0 M0 aa=>?_
 refine rM [2,3011] [1,7] [] ?_ ?_<;>intro h1
 refine wA [8] [1,3] [] ?_
 refine lp (fun zm zs=>∃i:Nat,zm=r.kids.length-i∧(i≤r.kids.length)∧(∀j,j<i→cP (r.kids.getD j default)=true)∧zs=⟨46,[(1,vvz (pz r)),(3,vvw (int i))],[]⟩) ?_ ?_
 exact⟨_,0,rfl,Z5 _,fun j hj=>absurd hj ace,rfl⟩
 rintro zm zs ⟨i,rfl,aZ,au,rfl⟩
 refine wS [6,3003] [1,3,12] [] ?_ ?_<;>intro h2
 refine wA [10,1] [1,3,19] [] ?_
 refine oC J J J J (ih _ (aaT (aax (hU ace) hr)) ace) ?_
 refine wS [3003] [1,3,21] [] ?_ ?_<;>intro h3
 refine wZ [8013] ?_;rotate_left
 refine wA [6,9002] [1,3] [] ?_
 exact⟨_,⟨i+1,rfl,ace,b7 au (by simp_all),rfl⟩,ace⟩
 refine wZ [8013] ?_;rotate_left
 refine wS [3011] [1,24] [] ?_ ?_<;>intro h4
 refine wA [8] [1,4] [] ?_
 refine lp (fun zm zs=>∃i:Nat,zm=r.kids.length-i∧(i≤r.kids.length)∧(∀j,j<i→cP (r.kids.getD j default)=false)∧zs=⟨46,[(1,vvz (pz r)),(4,vvw (int i))],[]⟩) ?_ ?_
 exact⟨_,0,rfl,Z5 _,fun j hj=>absurd hj ace,rfl⟩
 rintro zm zs ⟨i,rfl,fU,fW,rfl⟩
 refine wS [6,3003] [1,4,29] [] ?_ ?_<;>intro h5
 refine wA [10,1] [1,4,36] [] ?_
 refine oC J J J J (ih _ (aaT (aax (hU ace) hr)) ace) ?_
 refine wS [3002] [1,4,37] [] ?_ ?_<;>intro h6
 refine wZ [8013] ?_;rotate_left
 refine wA [6,9002] [1,4] [] ?_
 exact⟨_,⟨i+1,rfl,ace,b7 fW (by simp_all),rfl⟩,ace⟩
 refine wZ [8013] ?_;rotate_left
 refine wS [4009] [1,41] [] ?_ ?_<;>intro h7'
 refine wZ [8008] ?_;rotate_left
 refine wZ [8008] ?_;rotate_left
 all_goals
  rw[qp];first|rw[if_pos ace,Sk (i:=i) ace (by simp_all)]|rw[if_pos ace,O5 (fun j hj=>au j ace)]|rw[if_neg ace,if_pos ace,Hk (i:=i) ace (by simp_all)]|rw[if_neg ace,if_pos ace,FE (fun j hj=>fW j ace)]|(rw[if_neg ace,if_neg ace];simp_all;done)
abbrev Vc:=dU 2 Tryz.func199
theorem mP {x:Rx}(h:aq Tryz.prog 143 [rx x] (.p (bool (aQ x)))):aq Tryz.prog 199 [rx x] (.p (bool (!aQ x))):=by
 refine cF Vc fun w0 M0 aa=>?_
 refine c6 [2,6] [3] [] ?_
 refine oC J J J J (h) ?_
 refine wZ [8005] ?_
 rfl
abbrev RC:=dU 2 Tryz.func143
theorem me:∀ (m:Nat)(r:Rx),r.size≤m→m≤1099511627776→aq Tryz.prog 143 [rx r] (.p (bool (aQ r))):=by
 intro m
 induction m with
 | zero=>intro a hr _;have:=size_pos a;omega
 | succ m ih =>
 intro r hr hm
 have hkl:=dX r
 have hsl:=eA r
 rw[fi r]
 refine cF RC fun w0 M0 aa=>?_
 refine rM [2,3018] [1,4,5] [] ?_ ?_<;>intro h1
 refine wS [8,4002] [1,12] [] ?_ ?_<;>intro h2'
 refine wZ [2,8008] ?_;rotate_left
 refine wZ [8011] ?_;rotate_left
 refine wS [3006] [1,4,5] [] ?_ ?_<;>intro h3
 refine wS [5,4002] [1,12] [] ?_ ?_<;>intro h4'
 refine wZ [2,8008] ?_;rotate_left
 refine wZ [8011] ?_;rotate_left
 refine wS [3007] [1,4,18] [] ?_ ?_<;>intro h5
 refine wS [5,4002] [1,24] [] ?_ ?_<;>intro h6'
 refine wA [2] [24,26] [] ?_
 refine oC J J J J (DZ ace) ?_
 refine wZ [8007] ?_;rotate_left
 refine wZ [8010] ?_;rotate_left
 refine wS [3007] [1,4,29] [] ?_ ?_<;>intro h7
 refine wS [5,4002] [1,35] [] ?_ ?_<;>intro h8'
 refine wS [2,4003] [1,41] [] ?_ ?_<;>intro h9'
 refine wA [2,1] [41,45] [] ?_
 refine oC J J J J (ih _ (aaT (aax (hU ace) hr)) ace) ?_
 refine wZ [8007] ?_;rotate_left
 refine wZ [8012] ?_;rotate_left
 refine wZ [8018] ?_;rotate_left
 refine wS [3008] [1,4,48] [] ?_ ?_<;>intro h10
 refine wS [8,4002] [1,55] [] ?_ ?_<;>intro h11'
 refine wA [2] [55,57] [] ?_
 refine oC J J J J (gC (p:=fun x=>!aQ x) ace (fun x hx=>mP (ih _ (aaT (aax (dd hx) hr)) ace))) ?_
 refine wZ [8008] ?_;rotate_left
 refine wZ [8011] ?_;rotate_left
 refine wS [3006] [1,48] [] ?_ ?_<;>intro h12
 refine wS [5,4002] [1,55] [] ?_ ?_<;>intro h13'
 refine wA [2] [55,57] [] ?_
 refine oC J J J J (gC (p:=fun x=>!aQ x) ace (fun x hx=>mP (ih _ (aaT (aax (dd hx) hr)) ace))) ?_
 refine wZ [8008] ?_;rotate_left
 refine wZ [8011] ?_;rotate_left
 refine wZ [8010] ?_;rotate_left
 all_goals
  first|(rw[jC (r:=r) ace];simp_all;done)|(rw[lU (r:=r) ace];simp_all;done)|(rw[iW (r:=r) ace,decide_eq_true (p:=r.syms.length=0) ace,decide_eq_true (p:=r.kids.length=1) ace];first|rfl|(simp_all;done))|(rw[iW (r:=r) ace,decide_eq_false (p:=r.kids.length=1) ace,abc,abi];first|done|rfl|(simp_all;done))|(rw[iW (r:=r) ace,decide_eq_false (p:=r.syms.length=0) ace,abc];first|done|rfl|(simp_all;done))|(rw[lE (r:=r) ace];simp_all;done)|(rw[tV (r:=r) ace];done)
abbrev Vd:=dU 2 Tryz.func238
theorem vt {x:Rx}(h:aq Tryz.prog 203 [rx x] (.p (bool (cP x)))):aq Tryz.prog 238 [rx x] (.p (bool (!cP x))):=by
 refine cF Vd fun w0 M0 aa=>?_
 refine c6 [2,6] [3] [] ?_
 refine oC J J J J (h) ?_
 refine wZ [8005] ?_
 rfl
abbrev RD:=dU 2 Tryz.func203
theorem Gg:∀ (m:Nat)(r:Rx),r.size≤m→m≤1099511627776→aq Tryz.prog 203 [rx r] (.p (bool (cP r))):=by
 intro m
 induction m with
 | zero=>intro a hr _;have:=size_pos a;omega
 | succ m ih =>
 intro r hr hm
 have hkl:=dX r
 have hsl:=eA r
 rw[fi r]
 refine cF RD fun w0 M0 aa=>?_
 refine rM [2,3018] [1,4,5] [] ?_ ?_<;>intro h1
 refine wZ [8012] ?_;rotate_left
 refine wS [3006] [1,4,5] [] ?_ ?_<;>intro h2
 refine wZ [8009] ?_;rotate_left
 refine wS [3007] [1,4,8] [] ?_ ?_<;>intro h3
 refine wA [5] [11] [] ?_
 refine oC J J J J (gC (p:=fun x=>!cP x) ace (fun x hx=>vt (ih _ (aaT (aax (dd hx) hr)) ace))) ?_
 refine wZ [8007] ?_;rotate_left
 refine wS [3007] [1,14] [] ?_ ?_<;>intro h4
 refine wA [5] [17] [] ?_
 refine oC J J J J (gC (p:=cP) ace (fun x hx=>(ih _ (aaT (aax (dd hx) hr)) ace))) ?_
 refine wZ [8006] ?_;rotate_left
 refine wZ [8010] ?_;rotate_left
 all_goals
  rw[qp];first|(rw[if_pos ace,pC];done)|(rw[if_neg ace,if_pos ace];done)|(rw[if_neg ace,if_neg ace];simp_all;done)|(rw[if_neg ace,if_neg ace,decide_eq_false ace];done)
abbrev Ve:=dU 2 Tryz.func152
end Go.Proofs.YtlapahnodhmcpaaGreat
namespace Go.Am
section
variable {P:Program}
theorem im {f n t u:Nat}{c:Code}(hf:G7 P f n t u c){ds:List AV}{r r':AV}(hn:ds.length≤n)
  (h:∀(w0:Fr)(M0:Nat→Prop),(∀b,M0 b→b<w0.w.heap.size)→ao P w0 M0 c (St.enter n .pl ds) (G8 t u r r')):aX P f ds (.p (.tup [r,r'])) :=
 ⟨hf.bu,fun w M vs hM hv hr=>pg (cl:=.pl) hf hM hn vs hv (fun j d hd=>(hr j d hd).ca (fun b hb=>Or.elim hb id (fun h=>False.elim h))) (h (Fr.all w) M hM)⟩
end
end Go.Am
namespace Go.Wf
open Go.Am Go.Wb
def D2 (r:aG):AV:=.pc (HO r) 0
theorem gD {P:Nat→Prop}{i:Nat}(h:∀j,j<i→P j)(hi:P i):∀j,j<i+1→P j:=fun j hj=>by
 by_cases he:j=i
 ·subst he;exact hi
 ·exact h j ace
theorem Gh {r:aG}{i:Nat}(hi:i<r.pairs.length)(h:js (r.pairs.getD i default)=false):bI r=false:=by
 unfold bI
 rw[As hi h];simp
theorem nodup_iff {l:List eH}:(l.map (·.src)).Nodup↔∀j,j<l.length→∀k,k<j→(l.getD k default).src≠(l.getD j default).src:=by
 unfold List.Nodup
 rw[abx]
 constructor
 ·intro h j hj k hk
  have:=h k j (by rw[Z0];omega) (by rw[Z0];omega) hk
  rw[abL,abL] at this
  rw[dT hj,dT (show k<l.length by omega)]
  exact this
 ·intro h i j hi hj hij
  rw[Z0] at hi hj
  have:=h j hj i hij
  rw[dT hj,dT hi] at this
  rw[abL,abL]
  exact this
theorem Gi {r:aG}{i k:Nat}(hi:i<r.pairs.length)(hk:k<i)(h:(r.pairs.getD k default).src=(r.pairs.getD i default).src):bI r=false:=by
 unfold bI
 rw[decide_eq_false fun q=>nodup_iff.1 q i hi k hk h,abi]
theorem Gj {r:aG}(h:∀j,j<r.pairs.length→js (r.pairs.getD j default)=true)(h2:∀j,j<r.pairs.length→∀k,k<j→(r.pairs.getD k default).src≠(r.pairs.getD j default).src):bI r=(decide (r.pairs.length≤60)&&aQ r.left&&aQ r.right):=by
 unfold bI
 rw[uD h,decide_eq_true (nodup_iff.2 h2),Bool.and_true,Bool.and_true]
theorem Nr {r:aG}(h:jf r=false):AV.sc (.map none)=Ti r∧bool false=bool (bI r):=by rw[(RB h).1,(RB h).2];exact⟨rfl,rfl⟩
theorem P3 {r:aG}{i:Nat}(hi:i=r.pairs.length)(h:jf r=true):AV.mp (oz r.pairs i) (Th r.pairs i)=Ti r∧bool (decide (((oz r.pairs i).length:Int)=(r.pairs.length:Int)))=bool (bI r):=by
 subst hi
 rw[(Gd h).1,(Gd h).2]
 exact⟨rfl,congrArg bool (decide_eq_decide.2 ⟨fun q=>by exact_mod_cast q,fun q=>by exact_mod_cast q⟩)⟩
theorem Ns {r:aG}(h:(decide (r.pairs.length≤60)&&aQ r.left&&aQ r.right)=false):jf r=false:=by unfold jf;rw[h,abc]
theorem JM {r:aG}{i:Nat}(hi:i<r.pairs.length)(h:js (r.pairs.getD i default)=false):jf r=false:=by unfold jf;rw[As hi h,abi]
theorem JN {r:aG}(h0:(decide (r.pairs.length≤60)&&aQ r.left&&aQ r.right)=true)(h:∀j,j<r.pairs.length→js (r.pairs.getD j default)=true):jf r=true:=by unfold jf;rw[h0,uD h];rfl
end Go.Wf
namespace Go.Proofs.YtlapahnodhmcpaaGreat
open Go.Am Go.Wb Go.Wc Go.Wf
abbrev Vf:=dU 4 Tryz.func224
theorem x4 {r:aG}{x:Int}(hl:r.pairs.length≤1099511627776):aq Tryz.prog 224 [bm r,int x] (.p (int (eB (fun p=>decide (p.src=x)) r.pairs))):=by
 refine cF Vf fun w0 M0 aa=>?_
 refine c6 [2,10] [1,2,5] [] ?_
 refine lp (fun zm zs=>∃i:Nat,zm=r.pairs.length-i∧(i≤r.pairs.length)∧(∀j,j<i→decide ((r.pairs.getD j default).src=x)=false)∧zs=⟨22,[(1,vvz (int x)),(2,vvz (D2 r)),(5,vvw (int i))],[]⟩) ?_ ?_
 exact⟨_,0,rfl,Z5 _,fun j hj=>absurd hj ace,rfl⟩
 rintro zm zs ⟨i,rfl,aZ,au,rfl⟩
 refine wS [6,3003] [1,2,5,10] [] ?_ ?_<;>intro h1
 refine wS [10,3006] [1,2,5,20] [] ?_ ?_<;>intro h2
 refine wZ [8013] ?_
 rw[←nt (p:=fun p:eH=>decide (p.src=x)) (l:=r.pairs) (k:=i) ace au (by simp_all)]
 refine wA [6,9002] [1,2,5] [] ?_
 exact⟨_,⟨i+1,rfl,ace,b7 au (by simp_all),rfl⟩,ace⟩
 refine wZ [8012] ?_
 rw[←lD (p:=fun p:eH=>decide (p.src=x)) (l:=r.pairs) (fun j hj=>au j ace)]
abbrev Vg:=dU 2 Tryz.func178
theorem oK {r:aG}(hl:r.pairs.length≤1099511627776)(hd:∀p∈r.pairs,p.dst.length≤1099511627776)(h1r:r.left.size≤1099511627776)(h2r:r.right.size≤1099511627776):aq Tryz.prog 178 [bm r] (.p (bool (bI r))):=by
 refine cF Vg fun w0 M0 aa=>?_
 refine c6 [2,10] [1,3] [] ?_
 refine lp (fun zm zs=>∃i:Nat,zm=r.pairs.length-i∧(i≤r.pairs.length)∧(∀j,j<i→js (r.pairs.getD j default)=true)∧(∀j,j<i→∀k,k<j→(r.pairs.getD k default).src≠(r.pairs.getD j default).src)∧zs=⟨62,[(1,vvz (D2 r)),(3,vvw (int i))],[]⟩) ?_ ?_
 exact⟨_,0,rfl,Z5 _,fun j hj=>absurd hj ace,fun j hj=>absurd hj ace,rfl⟩
 rintro zm zs ⟨i,rfl,aZ,au,cX,rfl⟩
 refine wS [6,3003] [1,3,10] [] ?_ ?_<;>intro h1
 refine wA [10,10] [1,3,4,19] [4] ?_
 refine oC J J J J (tf) ?_
 refine wS [4002] [1,3,4,22] [4] ?_ ?_<;>intro h2'
 refine wZ [8026] ?_;rotate_left
 refine wS [2,4003] [1,3,4,28] [4] ?_ ?_<;>intro h3'
 refine wZ [8020] ?_;rotate_left
 refine wA [2] [1,3,4,28,30] [4] ?_
 refine oC J J J J (tg (hd _ (ba ace))) ?_
 refine wS [3004] [1,3,4,33] [4] ?_ ?_<;>intro h4
 refine wZ [8013] ?_;rotate_left
 refine wA [9] [1,3,4,5] [4] ?_
 refine lp (fun zm zs=>∃k:Nat,zm=i-k∧(k≤i)∧(∀j,j<k→(r.pairs.getD j default).src≠(r.pairs.getD i default).src)∧zs=⟨62,[(1,vvz (D2 r)),(3,vvw (int i)),(4,.pbox 4 0),(5,vvw (int k))],[(4,.box 132 [vvz (int (r.pairs.getD i default).src),vvz (ints (r.pairs.getD i default).dst)])]⟩) ?_ ?_
 exact⟨_,0,rfl,Z5 _,fun j hj=>absurd hj ace,rfl⟩
 rintro zm zs ⟨k,rfl,fU,fW,rfl⟩
 refine wS [3008] [1,3,4,5,36] [4] ?_ ?_<;>intro h5
 refine wS [2006,6003,3007] [1,3,4,5,47] [4] ?_ ?_<;>intro h6
 refine wZ [8016] ?_;rotate_left
 refine wA [6,9002] [1,3,4,5] [4] ?_
 exact⟨_,⟨k+1,rfl,ace,gD fW (by simp_all),rfl⟩,ace⟩
 refine wA [9,9002] [1,3] [] ?_
 exact⟨_,⟨i+1,rfl,ace,b7 au (by unfold js;simp_all;first|done|omega),gD cX (fun k hk=>fW k ace),rfl⟩,ace⟩
 refine wS [10,4002] [1,52] [] ?_ ?_<;>intro h7'
 refine wA [2] [1,52,54] [] ?_
 refine oC J J J J (kW _ _ (Z1 _) h1r) ?_
 refine wS [4002] [1,57] [] ?_ ?_<;>intro h8'
 refine wA [2] [57,59] [] ?_
 refine oC J J J J (kW _ _ (Z1 _) h2r) ?_
 refine wZ [8005] ?_;rotate_left
 refine wZ [8008] ?_;rotate_left
 refine wZ [8013] ?_;rotate_left
 all_goals
  first
   | (rw[Gh (i:=i) ace (by unfold js;simp_all;first|done|omega)];done)
   | (rw[Gi (i:=i) (k:=k) ace ace (by simp_all)];done)
   | (rw[Gj (r:=r) (fun j hj=>au j ace) (fun j hj=>cX j ace)];(simp_all;first|done|omega))
theorem Vh:G7 Tryz.prog 165 Tryz.f165.ntmps 2 3 (Tryz.f165.body.getD .skip):=⟨Tryz.f165,Tryz.func165,rfl,rfl,rfl,acf⟩
theorem x5 {r:aG}(hl:r.pairs.length≤1099511627776)(hd:∀p∈r.pairs,p.dst.length≤1099511627776)(h1r:r.left.size≤1099511627776)(h2r:r.right.size≤1099511627776):aX Tryz.prog 165 [bm r] (.p (.tup [Ti r,bool (bI r)])):=by
 refine im Vh (ZZ J) fun w0 M0 aa=>?_
 refine c6 [2,6] [1] [] ?_
 refine oS J (step_map J J J J J Tryz.underlying245 (fun q hq=>by cases hq<;>exact⟨_,_,rfl⟩) aa) J ?_
 refine wS [8,4002] [1,4,12] [7] ?_ ?_<;>intro h1'
 refine wZ [22] ?_
 refine cK J J ?_;rotate_left
 refine wA [2] [1,4,12,14] [7] ?_
 refine oC J J J J (me _ _ (Z1 _) h1r) ?_
 refine wS [4003] [1,4,18] [7] ?_ ?_<;>intro h2'
 refine wZ [16] ?_
 refine cK J J ?_;rotate_left
 refine wA [2] [1,4,18,20] [7] ?_
 refine oC J J J J (me _ _ (Z1 _) h2r) ?_
 refine wS [3004] [1,4,23] [7] ?_ ?_<;>intro h3
 refine wZ [9] ?_
 refine cK J J ?_;rotate_left
 refine wA [8,4] [1,4,25,26,27] [7] ?_
 refine lp (fun zm zs=>∃i:Nat,zm=r.pairs.length-i∧(i≤r.pairs.length)∧(∀j,j<i→js (r.pairs.getD j default)=true)∧zs=⟨60,[(1,vvw (D2 r)),(4,.omap 7),(25,vvw (.sl (r.pairs.map x3))),(26,vvw (int r.pairs.length)),(27,vvw (int i))],[(7,.mp (oz r.pairs i) (Th r.pairs i))]⟩) ?_ ?_
 exact⟨_,0,rfl,Z5 _,fun j hj=>absurd hj ace,rfl⟩
 rintro zm zs ⟨i,rfl,aZ,au,rfl⟩
 refine wS [3006] [1,4,25,26,27,28] [7] ?_ ?_<;>intro h4
 refine wA [7,7] [1,4,6,25,26,27] [6,7] ?_
 refine aS 60 [(1,_),(4,_),(6,_),(25,_),(26,_),(27,_)] [(7,_)] aa J ⟨.inl J,.inl J,.inr ⟨_,_,rfl,rfl,rfl⟩,.inl J,.inl J,.inl J,trivial⟩ ⟨rfl,trivial⟩ ?_
 refine gS [3] [1,4,6,25,26,27,32] [7] ?_
 refine oC J J J J (vq) ?_
 refine wS [4002] [1,4,6,25,26,27,35] [7] ?_ ?_<;>intro h5'
 refine wZ [27] ?_
 refine cK J J ?_;rotate_left
 refine wS [2,4003] [1,4,6,25,26,27,41] [7] ?_ ?_<;>intro h6'
 refine wZ [21] ?_
 refine cK J J ?_;rotate_left
 refine wA [2] [1,4,6,25,26,27,41,43] [7] ?_
 refine oC J J J J (vr (hd _ (ba ace))) ?_
 refine wS [3004] [1,4,6,25,26,27,46] [7] ?_ ?_<;>intro h7
 refine wZ [14] ?_
 refine cK J J ?_;rotate_left
 refine wA [9] [1,4,25,26,27,47,49,51] [7] ?_
 refine oS J (K0 J J J Tryz.underlying245 Tryz.underlying3 J J J J J (uB r.pairs i) aa) J ?_
 refine wA [4,9002] [1,4,25,26,27] [7] ?_
 exact⟨_,⟨i+1,rfl,ace,b7 au (by unfold js;simp_all;first|done|omega),rfl⟩,ace⟩
 refine wA [2007,2] [1,53,54] [7] ?_
 refine oD J J J (IM J Tryz.underlying245 J) ?_
 refine wZ [6002,6] ?_
 refine cK J J ?_;rotate_left
 all_goals
  first
   | exact Nr (Ns (by simp_all;first|done|omega))
   | exact Nr (JM (i:=i) ace (by unfold js;simp_all;first|done|omega))
   | exact P3 ace (JN (by simp_all;first|done|omega) (fun j hj=>au j ace))
abbrev Vi:=dU 2 Tryz.func141
theorem D3 {r:aG}(hl:r.pairs.length≤1099511627776)(hd:∀p∈r.pairs,p.dst.length≤1099511627776)(h1r:r.left.size≤1099511627776)(h2r:r.right.size≤1099511627776):aq Tryz.prog 141 [bm r] (.p (bool (bI r))):=by
 refine cF Vi fun w0 M0 aa=>?_
 refine c6 [2,6] [6] [] ?_
 refine oN J J J J J (x5 hl hd h1r h2r) ?_
 refine wZ [8014] ?_
 rfl
end Go.Proofs.YtlapahnodhmcpaaGreat
namespace Go.Wf
open Go.Am Go.Wb Go.Wc
abbrev strs (l:List (List UInt8)):AV:=.sl (l.map aj)
structure gL where
 name:List UInt8
 pre:List Int
 suf:List Int
 change:List (List UInt8)
 deriving Inhabited,DecidableEq
def D4 (c:gL):List AV:=[aj c.name,ints c.pre,ints c.suf,strs c.change]
def dv (c:gL):AV:=.agg (D4 c)
structure iq where
 name:List UInt8
 fits:Rx
 strip:Int
 cells:List gL
 deriving Inhabited
def oM (c:iq):List AV:=[aj c.name,int c.fits.kind,ints c.fits.syms,.sl (Rx.gi c.fits.kids),int c.strip,.sl (c.cells.map dv)]
def bT (c:iq):AV:=.agg (oM c)
structure P4 where
 name:List UInt8
 syms:List Int
 deriving Inhabited,DecidableEq
def jJ (s:P4):AV:=.agg [aj s.name,ints s.syms]
structure aI where
 sets:List P4
 rules:List aG
 classes:List iq
 order:List (List UInt8)
 deriving Inhabited
def rj (g:aI):List AV:=[.sl (g.sets.map jJ),.sl (g.rules.map bm),.sl (g.classes.map bT),strs g.order]
def df (g:aI):AV:=.agg (rj g)
def iF (g:aI):AV:=.pc (rj g) 0
def BY (c:iq):AV:=.pc (oM c) 0
structure aY where
 cell:List UInt8
 ah:List Int
 cuts:List Int
 rules:List (List UInt8)
 deriving Inhabited,DecidableEq
def D5 (f:aY):List AV:=[aj f.cell,ints f.ah,ints f.cuts,strs f.rules]
def iG (f:aY):AV:=.agg (D5 f)
structure dY where
 lemma_:List Int
 class_:List UInt8
 deriving Inhabited,DecidableEq
def dm (x:dY):AV:=.agg [ints x.lemma_,aj x.class_]
def pV {α:Type}(f:α→List UInt8)(l:List α)(n:List UInt8):Option α:=l.find? fun x=>decide (f x=n)
theorem pW {α:Type} [Inhabited α]{f:α→List UInt8}{l:List α}{n:List UInt8}{i:Nat}(hi:i<l.length)(h:∀j,j<i→decide (f (l.getD j default)=n)=false)(hp:f (l.getD i default)=n):pV f l n=some (l.getD i default):=by
 unfold pV
 rw[List.find?_eq_some_iff_getElem]
 refine⟨decide_eq_true hp,i,hi,(dT hi).symm,fun j hj=>?_⟩
 have:=h j hj
 rw[dT (show j<l.length by omega)] at this
 rw[this];rfl
theorem nI {α:Type} [Inhabited α]{f:α→List UInt8}{l:List α}{n:List UInt8}(h:∀j,j<l.length→decide (f (l.getD j default)=n)=false):pV f l n=none:=by
 unfold pV
 rw[ab7]
 intro x hx
 obtain⟨j,hj,rfl⟩:=List.mem_iff_getElem.1 hx
 have:=h j hj
 rw[dT hj] at this
 simpa using this
def D6:iq:=⟨[],dG,0,[]⟩
def HU:gL:=⟨[],[],[],[]⟩
def fF (g:aI)(n:List UInt8):Option iq:=pV (·.name) g.classes n
def mQ (c:iq)(n:List UInt8):Option gL:=pV (·.name) c.cells n
def th (g:aI)(n:List UInt8):Option aG:=pV (·.name) g.rules n
def vP (g:aI)(l:List (List UInt8)):List aG:=l.map fun n=>(th g n).getD default
def mR (g:aI)(l:List (List UInt8)):Bool:=l.all fun n=>(th g n).isSome
def bq (g:aI)(l:List (List UInt8)):List aG:=if mR g l=true then vP g l else[]
theorem BZ {g:aI}{l:List (List UInt8)}{i:Nat}(hi:i<l.length)(h:th g (l.getD i default)=none):bq g l=[]∧mR g l=false:=by
 have:mR g l=false:=As hi (by rw[h];rfl)
 exact⟨if_neg (by rw[this];decide),this⟩
theorem wo {g:aI}{l:List (List UInt8)}(h:∀j,j<l.length→(th g (l.getD j default)).isSome=true):bq g l=vP g l∧mR g l=true:=by
 have:mR g l=true:=uD h
 exact⟨if_pos this,this⟩
theorem Aw {g:aI}{l:List (List UInt8)}{i:Nat}(hi:i<l.length){r:aG}(h:th g (l.getD i default)=some r):vP g (l.take (i+1))=vP g (l.take i)++[r]:=by
 unfold vP
 rw[take_succ hi,Z8,ab5,h];rfl
theorem x6 {g:aI}{l:List (List UInt8)}:(vP g l).length=l.length:=Z0 _
theorem qH {α:Type} [Inhabited α]{f:α→List UInt8}{l:List α}{n:List UInt8}:(0≤eB (fun x=>decide (f x=n)) l→pV f l n=some (l.getD (eB (fun x=>decide (f x=n)) l).toNat default))∧(eB (fun x=>decide (f x=n)) l<0→pV f l n=none):=by
 unfold eB pV
 cases h:l.any fun x=>decide (f x=n) with
 | true =>
   rw[if_pos rfl]
   refine⟨fun _=>?_,fun h0=>ace⟩
   rw[abl]
   obtain⟨x,hx,hpx⟩:=aay.1 h
   have hlt:l.findIdx (fun x=>decide (f x=n))<l.length:=abM ⟨x,hx,hpx⟩
   rw[dT hlt]
   have:=List.find?_eq_some_iff_getElem (xs:=l) (p:=fun x=>decide (f x=n)) (b:=l[l.findIdx fun x=>decide (f x=n)])
   exact this.2 ⟨List.findIdx_getElem (xs:=l) (p:=fun x=>decide (f x=n)) (w:=hlt),_,hlt,rfl,fun j hj=>by simpa using List.not_of_lt_findIdx hj⟩
 | false =>
   rw[if_neg acg]
   refine⟨fun h0=>ace,fun _=>?_⟩
   rw[ab7]
   intro x hx
   have:=abe.1 h x hx
   simpa using this
theorem RE {α:Type} [Inhabited α]{p:α→Bool}{l:List α}:eB p l<l.length:=by
 unfold eB
 split
 ·next h =>
  obtain⟨x,hx,hpx⟩:=aay.1 h
  have:=abM ⟨x,hx,hpx⟩
  omega
 ·omega
end Go.Wf
