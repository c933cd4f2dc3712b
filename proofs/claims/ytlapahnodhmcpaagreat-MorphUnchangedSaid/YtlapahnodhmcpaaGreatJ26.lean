/-
  Part of the proof.
-/
import Derived.Test.YtlapahnodhmcpaaGreatJ0
import Derived.Test.YtlapahnodhmcpaaGreatJ25
import Derived.Test.YtlapahnodhmcpaaGreatJ20
import Derived.Test.YtlapahnodhmcpaaGreatJ6
import Derived.Test.YtlapahnodhmcpaaGreatJ16
import Derived.Test.YtlapahnodhmcpaaGreatJ12
set_option linter.unusedVariables false
set_option linter.unusedSectionVars false
set_option linter.unusedSimpArgs false
set_option maxRecDepth 100000
set_option maxHeartbeats 40000000
namespace Go.Wf
open Go.Am Go.Wb Go.Wc Go.We
structure eK where
 src:Int
 dst:List Int
 deriving Inhabited,DecidableEq
def yz (p:eK):AV:=.agg [int p.src,ints p.dst]
structure aF where
 name:List UInt8
 pairs:List eK
 left:Rx
 right:Rx
 deriving Inhabited
def IB (r:aF):List AV:=[ah r.name,.sl (r.pairs.map yz),int r.left.kind,ints r.left.syms,.sl (Rx.gA r.left.kids),int r.right.kind,ints r.right.syms,.sl (Rx.gA r.right.kids)]
def bn (r:aF):AV:=.agg (IB r)
def Kq (x:Int):Bool:=(decide (0≤x)&&decide (x<60))||decide (x=63)
def fL (w:List Int):Bool:=w.all Kq
def jv (p:eK):Bool:=Kq p.src&&decide (p.dst.length≤3)&&fL p.dst
def bI (r:aF):Bool:=decide (r.pairs.length≤60)&&aR r.left&&aR r.right&&r.pairs.all jv&&decide ((r.pairs.map (·.src)).Nodup)
def lo (l:List eK)(x:Int):Option eK:=l.find? fun p=>decide (p.src=x)
theorem GZ {x:Int}(h:Kq x=true):0≤x∧x<64:=by unfold Kq at h;rw[aba,aax,decide_eq_true_eq,decide_eq_true_eq,decide_eq_true_eq] at h;omega
def anyS:List Int:=(List.range 64).map fun i:Nat=>(i:Int)
def jJ:Rx:=.mk 5 [] [.mk 2 anyS []]
theorem IC {x:Int}:x∈anyS↔0≤x∧x<64:=by
 unfold anyS;rw[aaG];constructor
 ·rintro⟨i,hi,rfl⟩;have:=aaI.1 hi;omega
 ·rintro⟨h0,h1⟩;exact⟨x.toNat,aaI.2 acK,acK⟩
theorem Kr:aR jJ=true:=by decide +kernel
theorem N3:jJ.size≤70:=by decide +kernel
theorem QJ (w:List Int):fb jJ w↔∀x∈w,0≤x∧x<64:=by
 rw[vK rfl];show Eh [_] w↔_;rw[mu];constructor
 · intro h
   induction h with
   | nil=>intro x hx;cases hx
   | @cons u v h1 _ ih =>
     intro x hx;rcases aaU.1 hx with hx|hx
     · obtain ⟨a, rfl, ha⟩ := (nW rfl u).1 h1
       rw[aay.1 hx];exact IC.1 ha
     · exact ih x hx
 · intro h
   induction w with
   | nil=>exact .nil
   | cons a w ih=>exact .cons (u:=[a]) ((nW rfl [a]).2 ⟨a,rfl,IC.2 (h a aaq)⟩) (ih fun x hx=>h x (aav _ hx))
def fM (r:Rx):Rx:=.mk 3 [] [jJ,r]
variable{r:Rx}
theorem Ks (h:aR r=true):aR (fM r)=true:=by rw[lU (r:=fM r) (.inl rfl)];show(_&&_)=true;show(decide (([]:List Int).length=0)&&!([jJ,r].any fun x=>!aR x))=true;simp[Kr,h]
theorem QK {w:List Int}(hw:∀x∈w,0≤x∧x<64):fb (fM r) w↔∃k,k≤w.length∧fb r (w.drop k):=by
 rw[vJ rfl];show kh [jJ,r] w↔_;rw[dT];constructor
 ·rintro⟨u,v,rfl,_,hv⟩;rw[iY] at hv;exact⟨u.length,by simp,by rw[List.drop_left];exact hv⟩
 ·rintro⟨k,hk,h⟩;exact⟨w.take k,w.drop k,(abn k w).symm,(QJ _).2 fun x hx=>hw x (abv hx),(iY _ _).2 h⟩
def atR (r:Rx)(v:List Int):Rx:=Dv (dv (fM r)) v
theorem N4 (r:Rx)(v:List Int):Nf (atR r v):=AW (q8 _) v
theorem EL (r:Rx)(v:List Int)(x:Int):atR r (v++[x])=dR x (atR r v):=q9 _ v x
theorem ID (hr:aR r=true){v:List Int}(hv:∀x∈v,0≤x∧x<64):cO (atR r v)=true↔∃k,k≤v.length∧fb r (v.drop k):=by have h:=lX (Ks hr) v;rw[yj] at h;exact h.trans (QK hv)
def vQ (r:Rx)(w:List Int)(i:Nat):Bool:=cO (atR r (62 :: w.take i))
def o4 (r:Rx)(w:List Int)(i:Nat):Bool:=cO (atR (eo r) (62 :: (w.drop (i+1)).reverse))
def bp (r:aF)(w:List Int):List Int:=if bI r&&fL w then
   (List.range w.length).flatMap fun i=>match lo r.pairs (w.getD i default) with
     | some p=>if vQ r.left w i&&o4 r.right w i then p.dst else[w.getD i default]
     | none=>[w.getD i default]
 else w
end Go.Wf
namespace Go.Proofs.YtlapahnodhmcpaaGreat
open Go.Am Go.Wb Go.Wc Go.We Go.Wf
noncomputable def IE (r:Rx)(w:List Int)(i:Nat):Bool:=(List.range ((62 :: w.take i).length+1)).any fun k=>Ba r ((62 :: w.take i).drop k)
noncomputable def CB (r:Rx)(w:List Int)(i:Nat):Bool:=(List.range ((w.drop (i+1)++[62]).length+1)).any fun k=>Ba r ((w.drop (i+1)++[62]).take k)
noncomputable def uW (r:aF)(w:List Int):List Int:=if bI r&&fL w then
  (List.range w.length).flatMap fun i => match lo r.pairs (w.getD i default) with
   | some p=>if IE r.left w i&&CB r.right w i then p.dst else[w.getD i default]
   | none=>[w.getD i default]
 else w
variable{r:Rx}
theorem left_eq (hr:aR r=true){w:List Int}(hw:fL w=true)(i:Nat):vQ r w i=IE r w i:=by
 have hv:∀x∈62 :: w.take i,0≤x∧x<64:=fun x hx=>by
  rcases aaC.1 hx with rfl|hx
  ·decide
  ·exact GZ (aaF.1 hw x (abv hx))
 refine abU.2 ((ID hr hv).trans ?_);unfold IE;rw[aaQ];constructor
 ·rintro⟨k,hk,h⟩;exact⟨k,aaI.2 acK,by rw[←qo];exact(lX hr _).2 h⟩
 ·rintro⟨k,hk,h⟩;rw[←qo] at h;exact⟨k,by have:=aaI.1 hk;omega,(lX hr _).1 h⟩
theorem IF (hr:aR r=true)(w:List Int):fb (eo r) w↔fb r w.reverse:=by unfold eo;rw[if_pos hr];exact(AY r hr).2 w
theorem N5 (hr:aR r=true){w:List Int}(hw:fL w=true)(i:Nat):o4 r w i=CB r w i:=by
 have hv:∀x∈62 :: (w.drop (i+1)).reverse,0≤x∧x<64:=fun x hx=>by
  rcases aaC.1 hx with rfl|hx
  ·decide
  ·exact GZ (aaF.1 hw x (aa0 (List.mem_reverse.1 hx)))
 have hrv:aR (eo r)=true:=nT (P2 r);have e:(62 :: (w.drop (i+1)).reverse)=(w.drop (i+1)++[62]).reverse:=by simp
 refine abU.2 ((ID hrv hv).trans ?_);unfold CB;rw[aaQ,e];generalize w.drop (i+1)++[62]=t;constructor
 ·rintro⟨k,hk,h⟩;rw[IF hr,List.drop_reverse,abM] at h;exact⟨t.length-k,aaI.2 acK,by rw[←qo];exact(lX hr _).2 h⟩
 ·rintro⟨k,hk,h⟩;rw[←qo] at h;have hk:=aaI.1 hk;refine⟨t.length-k,by rw[aaX];omega,?_⟩;rw[IF hr,List.drop_reverse,abM,show t.length-(t.length-k)=k by omega];exact(lX hr _).1 h
theorem EM (r:aF)(w:List Int):bp r w=uW r w:=by
 unfold bp uW;split
 ·next h =>
  rw[aax] at h;have h1:=h.1;unfold bI at h1;simp only[aax] at h1
  congr 1
  funext i
  rw[left_eq h1.1.1.1.2 h.2,N5 h1.1.1.2 h.2]
 ·rfl
end Go.Proofs.YtlapahnodhmcpaaGreat
namespace Go.Wf
open Go.Am Go.Wb Go.Wc Go.RowKit Go.ChangeMaps Go.MapKept
abbrev nv (x:Int):Value:=.int .i64 x
noncomputable def oV (l:List eK):Nat→List Value
 | 0=>[]
 | i+1=>Go.Am.fY (oV l i) (nv (l.getD i default).src)
noncomputable def TX (l:List eK):Nat→List AV
 | 0=>[]
 | i+1=>Go.Am.Ju (oV l i) (TX l i) (nv (l.getD i default).src) (ints (l.getD i default).dst)
theorem tC {x y:Int}:nv x=nv y↔x=y:=by simp[nv]
theorem uX (l:List eK):∀i,∀u∈oV l i,IsKey (.int .i64) u
 | 0,u,h=>by cases h
 | i + 1, u, h => by
   unfold oV Go.Am.fY at h;split at h
   · exact uX l i u h
   · rw [aaU] at h
     rcases h with h|h
     · exact uX l i u h
     · simp only[aay] at h;subst h;rfl
theorem IG (l:List eK):∀i,(oV l i).length≤i
 | 0=>aak _
 | i + 1 => by
   have:=IG l i;unfold oV Go.Am.fY;split
   · omega
   · simp;omega
theorem tD {l:List eK}:∀{i:Nat},i≤l.length→(oV l i).length=i→oV l i=(l.take i).map (fun p=>nv p.src)∧TX l i=(l.take i).map (fun p=>ints p.dst)∧((l.take i).map (·.src)).Nodup
 | 0,_,_=>⟨rfl,rfl,List.nodup_nil⟩
 | i + 1, hi, h => by
   have hl:=IG l i;unfold oV Go.Am.fY at h;unfold oV TX Go.Am.fY Go.Am.Ju;cases hp:dK (oV l i) (nv (l.getD i default).src) with
   | some j=>rw[hp] at h;simp only[] at h;omega
   | none =>
     rw[hp] at h;simp only[aar,aaZ] at h;obtain⟨h1,h2,h3⟩:=tD (by omega:i≤l.length) acK;refine⟨by rw[h1,take_succ acK,aas];rfl,by rw[h2,take_succ acK,aas];rfl,?_⟩;rw[take_succ acK,aas];have hn:=Ak.1 hp;rw[h1] at hn;refine List.nodup_append.2 ⟨h3,List.nodup_cons.2 ⟨aca,List.nodup_nil⟩,fun a ha b hb e=>hn ?_⟩;obtain⟨p,hp',rfl⟩:=aaG.1 ha;exact aaG.2 ⟨p,hp',by rw[tC,e,aay.1 hb]⟩
theorem N6 {l:List eK}:∀{i:Nat},i≤l.length→((l.take i).map (·.src)).Nodup→(oV l i).length=i
 | 0,_,_=>rfl
 | i + 1, hi, h => by
   rw[take_succ acK,aas] at h;obtain⟨h1,_,h3⟩:=List.nodup_append.1 h;have ih:=N6 (by omega:i≤l.length) h1;obtain⟨g1,_,_⟩:=tD (by omega:i≤l.length) ih;unfold oV Go.Am.fY;cases hp:dK (oV l i) (nv (l.getD i default).src) with
   | none=>simp;omega
   | some j =>
     have hm:=aaW (eP hp);rw[g1,aaG] at hm;obtain⟨x,hx,he⟩:=hm;exact absurd (tC.1 he) (h3 x.src (aaG.2 ⟨x,hx,rfl⟩) (l.getD i default).src (by simp))
theorem Bb (l:List eK):decide ((oV l l.length).length=l.length)=decide ((l.map (·.src)).Nodup):=by
 refine decide_eq_decide.2 ⟨fun h=>?_,fun h=>?_⟩
 ·have:=(tD (aak _) h).2.2;rwa [abj] at this
 ·exact N6 (aak _) (by rw[abj];exact h)
def ji (r:aF):Bool:=decide (r.pairs.length≤60)&&aR r.left&&aR r.right&&r.pairs.all jv
theorem uY (r:aF):bI r=(ji r&&decide ((r.pairs.map (·.src)).Nodup)):=rfl
noncomputable def TY (r:aF):AV:=if ji r=true then .mp (oV r.pairs r.pairs.length) (TX r.pairs r.pairs.length) else .sc (.map none)
variable{r:aF}
theorem Si (h:ji r=false):TY r=.sc (.map none)∧bI r=false:=⟨if_neg (by rw[h];decide),by rw[uY,h];rfl⟩
theorem G0 (h:ji r=true):TY r=.mp (oV r.pairs r.pairs.length) (TX r.pairs r.pairs.length)∧bI r=decide ((oV r.pairs r.pairs.length).length=r.pairs.length):=⟨if_pos h,by rw[uY,h,Bb,abm]⟩
theorem VG (h:bI r=true):TY r=.mp (r.pairs.map fun p=>nv p.src) (r.pairs.map fun p=>ints p.dst):=by
 rw[uY,aax] at h;rw[(G0 h.1).1];have h2:(oV r.pairs r.pairs.length).length=r.pairs.length:=by
  have:=Bb r.pairs;rw[h.2] at this;exact of_decide_eq_true this
 obtain⟨g1,g2,_⟩:=tD (aak _) h2;rw[g1,g2,abj]
variable{α:Type}{l:List α}{i:Nat}
theorem eh  [Inhabited α](h:i<l.length):l.getD i default=l[i]:=by rw[aag,aal h];rfl
theorem aM  [Inhabited α](h:i<l.length):l.getD i default∈l:=by rw[eh h];exact abp h
theorem G1 (w:List Int):(!w.any fun x=>!Kq x)=fL w:=by unfold fL;rw[List.not_any_eq_all_not];simp
theorem Bc  [Inhabited α]{p:α→Bool}(hi:i<l.length)(h:p (l.getD i default)=false):l.all p=false:=by rw[List.all_eq_false];exact⟨_,aM hi,by rw[h];decide⟩
theorem uZ  [Inhabited α]{p:α→Bool}(h:∀j,j<l.length→p (l.getD j default)=true):l.all p=true:=by rw[aaF];intro x hx;obtain⟨j,hj,rfl⟩:=List.mem_iff_getElem.1 hx;have:=h j hj;rwa [aag,aal hj] at this
end Go.Wf
namespace Go.Proofs.YtlapahnodhmcpaaGreat
open Go.Am Go.Wb Go.Wc Go.Wf
abbrev YA:=dF 4 Tryz.func84
variable{g:FuncId}
theorem Bd {l:List Int}{p:Int→Bool}{caps:List AV}(hl:l.length≤1099511627776)(hf:∀x∈l,ak Tryz.prog g ([int x]++caps) (.p (bool (p x)))):ak Tryz.prog 84 [ints l,.clo g caps] (.p (int (eB p l))):=by
 refine cF YA fun w0 M0 aa=>?_
 refine c4 [9,4] [0,1,7,8] [] ?_;refine lr (fun zl zo zm zs=>∃k:Nat,zm=l.length-k∧(k≤l.length)∧(∀j,j<k→p (l.getD j default)=false)∧zs=eJ 19 [(7,vvw (int l.length)),(8,vvw (int k))] zl [] zo) ?_ ?_;exact⟨_,0,rfl,aan _,fun j hj=>absurd hj acK,rfl⟩;rintro zm zs ⟨k,rfl,aY,aq,rfl⟩;refine wS [3006] [0,1,7,8,9] [] ?_ ?_<;>intro h1;refine wA [16,1] [0,1,5,7,8,11,15] [] ?_;refine oC J J J J (hf _ (aM acK)) ?_;refine wS [3002] [0,1,5,7,8,16] [] ?_ ?_<;>intro h2;refine wZ [8013] ?_;rw[←nJ (p:=p) (l:=l) (k:=k) acK aq (by simp_all)];refine wA [5,9002] [0,1,7,8] [] ?_;exact⟨_,⟨k+1,rfl,acK,bX aq (by simp_all),rfl⟩,acK⟩;refine wZ [8012] ?_;rw[←lT (p:=p) (l:=l) (fun j hj=>aq j acK)]
abbrev VH:=dF 4 Tryz.func208
theorem Be {l:List Int}{p:Int→Bool}{caps:List AV}(hl:l.length≤1099511627776)(hf:∀x∈l,ak Tryz.prog g ([int x]++caps) (.p (bool (p x)))):ak Tryz.prog 208 [ints l,.clo g caps] (.p (bool (l.any p))):=by
 refine cF VH fun w0 M0 aa=>?_
 refine c4 [9] [5,6] [] ?_;refine oC J J J J (Bd hl hf) ?_;refine wZ [8005] ?_;rw[wE]
abbrev VI:=dF 2 Tryz.func169
variable{x:Int}
theorem vR :ak Tryz.prog 169 [int x] (.p (bool (Kq x))):=by
 refine cF VI fun w0 M0 aa=>?_
 refine pW [4010] [0,5] [] ?_ ?_<;>intro h1';refine wS [4004] [0,9] [] ?_ ?_<;>intro h2';refine wZ [8007] ?_;rotate_left;refine wZ [8007] ?_;rotate_left;refine wZ [8011] ?_;rotate_left
 all_goals
  unfold Kq;simp_all;try omega
abbrev VJ:=dF 2 Tryz.func220
theorem tE :ak Tryz.prog 220 [int x] (.p (bool (Kq x))):=by
 refine cF VJ fun w0 M0 aa=>?_
 refine pW [4010] [0,5] [] ?_ ?_<;>intro h1';refine wS [4004] [0,9] [] ?_ ?_<;>intro h2';refine wZ [8007] ?_;rotate_left;refine wZ [8007] ?_;rotate_left;refine wZ [8011] ?_;rotate_left
 all_goals
  unfold Kq;simp_all;try omega
abbrev VK:=dF 2 Tryz.func226
theorem G2 :ak Tryz.prog 226 [int x] (.p (bool (!Kq x))):=by
 refine cF VK fun w0 M0 aa=>?_
 refine c4 [8] [3] [] ?_;refine oC J J J J (vR) ?_;refine wZ [8005] ?_;rfl
abbrev VL:=dF 2 Tryz.func184
theorem vS {w:List Int}(hw:w.length≤1099511627776):ak Tryz.prog 184 [ints w] (.p (bool (fL w))):=by
 refine cF VL fun w0 M0 aa=>?_
 refine c4 [8] [3] [] ?_;refine oC J J J J (Be (p:=fun x=>!Kq x) acK (fun x hx=>G2)) ?_;refine wZ [8005] ?_;rw[G1]
abbrev VM:=dF 2 Tryz.func221
theorem tF {w:List Int}(hw:w.length≤1099511627776):ak Tryz.prog 221 [ints w] (.p (bool (fL w))):=by
 refine cF VM fun w0 M0 aa=>?_
 refine c4 [12] [0,3] [] ?_;refine lr (fun zl zo zm zs=>∃i:Nat,zm=w.length-i∧(i≤w.length)∧(∀j,j<i→Kq (w.getD j default)=true)∧zs=eJ 16 [(3,vvw (int i))] zl [] zo) ?_ ?_;exact⟨_,0,rfl,aan _,fun j hj=>absurd hj acK,rfl⟩;rintro zm zs ⟨i,rfl,aY,aq,rfl⟩;refine wS [5,3003] [0,3,7] [] ?_ ?_<;>intro h1;refine wA [9,1] [0,3,13] [] ?_;refine oC J J J J (tE) ?_;refine wS [3003] [0,3,15] [] ?_ ?_<;>intro h2;refine wZ [8012] ?_;rotate_left;refine wA [6,9002] [0,3] [] ?_;exact⟨_,⟨i+1,rfl,acK,bX aq (by simp_all),rfl⟩,acK⟩;refine wZ [8012] ?_;rotate_left
 all_goals
  show _=RV.p (Am.bool (w.all Kq));first|(rw[Bc (i:=i) acK (by simp_all)];done)|(rw[uZ (fun j hj=>aq j acK)];done)
abbrev VN:=dF 4 Tryz.func232
theorem Kt {l:List Rx}{p:Rx→Bool}(hl:l.length≤1099511627776)(hf:∀x∈l,ak Tryz.prog g [rx x] (.p (bool (p x)))):ak Tryz.prog 232 [jM l,.clo g []] (.p (int (eB p l))):=by
 refine cF VN fun w0 M0 aa=>?_
 refine c4 [9,4] [0,1,7,8] [] ?_;refine lr (fun zl zo zm zs=>∃k:Nat,zm=l.length-k∧(k≤l.length)∧(∀j,j<k→p (l.getD j default)=false)∧zs=eJ 19 [(7,vvw (int l.length)),(8,vvw (int k))] zl [] zo) ?_ ?_;exact⟨_,0,rfl,aan _,fun j hj=>absurd hj acK,rfl⟩;rintro zm zs ⟨k,rfl,aY,aq,rfl⟩;refine wS [3006] [0,1,7,8,9] [] ?_ ?_<;>intro h1;refine wA [16,1] [0,1,5,7,8,11,15] [] ?_;refine oC J J J J (hf _ (aQ acK)) ?_;refine wS [3002] [0,1,5,7,8,16] [] ?_ ?_<;>intro h2;refine wZ [8013] ?_;rw[←nJ (p:=p) (l:=l) (k:=k) acK aq (by simp_all)];refine wA [5,9002] [0,1,7,8] [] ?_;exact⟨_,⟨k+1,rfl,acK,bX aq (by simp_all),rfl⟩,acK⟩;refine wZ [8012] ?_;rw[←lT (p:=p) (l:=l) (fun j hj=>aq j acK)]
abbrev VO:=dF 4 Tryz.func198
theorem gN {l:List Rx}{p:Rx→Bool}(hl:l.length≤1099511627776)(hf:∀x∈l,ak Tryz.prog g [rx x] (.p (bool (p x)))):ak Tryz.prog 198 [jM l,.clo g []] (.p (bool (l.any p))):=by
 refine cF VO fun w0 M0 aa=>?_
 refine c4 [9] [5,6] [] ?_;refine oC J J J J (Kt hl hf) ?_;refine wZ [8005] ?_;rw[wE]
abbrev VP:=dF 2 Tryz.func135
theorem Ku:∀ (m:Nat)(r:Rx),r.size≤m→m≤1099511627776→ak Tryz.prog 135 [rx r] (.p (bool (cO r))):=by
 intro m
 induction m with
 | zero=>intro a hr _;have:=size_pos a;omega
 | succ m ih =>
 intro r hr hm;have hkl:=ea r;rw[ft r];refine cF VP fun w0 M0 aa=>?_
 refine pW [2,3011] [1,7] [] ?_ ?_<;>intro h1;refine wA [8] [1,3] [] ?_;refine lr (fun zl zo zm zs=>∃i:Nat,zm=r.kids.length-i∧(i≤r.kids.length)∧(∀j,j<i→cO (r.kids.getD j default)=true)∧zs=eJ 46 [(3,vvw (int i))] zl [] zo) ?_ ?_;exact⟨_,0,rfl,aan _,fun j hj=>absurd hj acK,rfl⟩;rintro zm zs ⟨i,rfl,aY,aq,rfl⟩;refine wS [6,3003] [1,3,12] [] ?_ ?_<;>intro h2;refine wA [10,1] [1,3,19] [] ?_;refine oC J J J J (ih _ (abf (aaT (ij acK) hr)) acK) ?_;refine wS [3003] [1,3,21] [] ?_ ?_<;>intro h3;refine wZ [8013] ?_;rotate_left;refine wA [6,9002] [1,3] [] ?_;exact⟨_,⟨i+1,rfl,acK,bX aq (by simp_all),rfl⟩,acK⟩;refine wZ [8013] ?_;rotate_left;refine wS [3011] [1,24] [] ?_ ?_<;>intro h4;refine wA [8] [1,4] [] ?_;refine lr (fun zl zo zm zs=>∃i:Nat,zm=r.kids.length-i∧(i≤r.kids.length)∧(∀j,j<i→cO (r.kids.getD j default)=false)∧zs=eJ 46 [(4,vvw (int i))] zl [] zo) ?_ ?_;exact⟨_,0,rfl,aan _,fun j hj=>absurd hj acK,rfl⟩;rintro zm zs ⟨i,rfl,fu,gi,rfl⟩;refine wS [6,3003] [1,4,29] [] ?_ ?_<;>intro h5;refine wA [10,1] [1,4,36] [] ?_;refine oC J J J J (ih _ (abf (aaT (ij acK) hr)) acK) ?_;refine wS [3002] [1,4,37] [] ?_ ?_<;>intro h6;refine wZ [8013] ?_;rotate_left;refine wA [6,9002] [1,4] [] ?_;exact⟨_,⟨i+1,rfl,acK,bX gi (by simp_all),rfl⟩,acK⟩;refine wZ [8013] ?_;rotate_left;refine wS [4009] [1,41] [] ?_ ?_<;>intro h7';refine wZ [8008] ?_;rotate_left;refine wZ [8008] ?_;rotate_left
 all_goals
  rw[qR];first|rw[if_pos acK,S8 (i:=i) acK (by simp_all)]|rw[if_pos acK,PX (fun j hj=>aq j acK)]|rw[if_neg acK,if_pos acK,H2 (i:=i) acK (by simp_all)]|rw[if_neg acK,if_pos acK,xS (fun j hj=>gi j acK)]|(rw[if_neg acK,if_neg acK];simp_all;done)
abbrev VQ:=dF 2 Tryz.func199
theorem nd {x:Rx}(h:ak Tryz.prog 143 [rx x] (.p (bool (aR x)))):ak Tryz.prog 199 [rx x] (.p (bool (!aR x))):=by
 refine cF VQ fun w0 M0 aa=>?_
 refine c4 [2,6] [3] [] ?_;refine oC J J J J (h) ?_;refine wZ [8005] ?_;rfl
abbrev Sj:=dF 2 Tryz.func143
theorem mB:∀ (m:Nat)(r:Rx),r.size≤m→m≤1099511627776→ak Tryz.prog 143 [rx r] (.p (bool (aR r))):=by
 intro m
 induction m with
 | zero=>intro a hr _;have:=size_pos a;omega
 | succ m ih =>
 intro r hr hm;have hkl:=ea r;have hsl:=eA r;rw[ft r];refine cF Sj fun w0 M0 aa=>?_
 refine pW [2,3018] [1,4,5] [] ?_ ?_<;>intro h1;refine wS [8,4002] [1,12] [] ?_ ?_<;>intro h2';refine wZ [2,8008] ?_;rotate_left;refine wZ [8011] ?_;rotate_left;refine wS [3006] [1,4,5] [] ?_ ?_<;>intro h3;refine wS [5,4002] [1,12] [] ?_ ?_<;>intro h4';refine wZ [2,8008] ?_;rotate_left;refine wZ [8011] ?_;rotate_left;refine wS [3007] [1,4,18] [] ?_ ?_<;>intro h5;refine wS [5,4002] [1,24] [] ?_ ?_<;>intro h6';refine wA [2] [24,26] [] ?_;refine oC J J J J (EK acK) ?_;refine wZ [8007] ?_;rotate_left;refine wZ [8010] ?_;rotate_left;refine wS [3007] [1,4,29] [] ?_ ?_<;>intro h7;refine wS [5,4002] [1,35] [] ?_ ?_<;>intro h8';refine wS [2,4003] [1,41] [] ?_ ?_<;>intro h9';refine wA [2,1] [41,45] [] ?_;refine oC J J J J (ih _ (abf (aaT (ij acK) hr)) acK) ?_;refine wZ [8007] ?_;rotate_left;refine wZ [8012] ?_;rotate_left;refine wZ [8018] ?_;rotate_left;refine wS [3008] [1,4,48] [] ?_ ?_<;>intro h10;refine wS [8,4002] [1,55] [] ?_ ?_<;>intro h11';refine wA [2] [55,57] [] ?_;refine oC J J J J (gN (p:=fun x=>!aR x) acK (fun x hx=>nd (ih _ (abf (aaT (de hx) hr)) acK))) ?_;refine wZ [8008] ?_;rotate_left;refine wZ [8011] ?_;rotate_left;refine wS [3006] [1,48] [] ?_ ?_<;>intro h12;refine wS [5,4002] [1,55] [] ?_ ?_<;>intro h13';refine wA [2] [55,57] [] ?_;refine oC J J J J (gN (p:=fun x=>!aR x) acK (fun x hx=>nd (ih _ (abf (aaT (de hx) hr)) acK))) ?_;refine wZ [8008] ?_;rotate_left;refine wZ [8011] ?_;rotate_left;refine wZ [8010] ?_;rotate_left
 all_goals
  first|(rw[jE (r:=r) acK];simp_all;done)|(rw[mi (r:=r) acK];simp_all;done)|(rw[iX (r:=r) acK,decide_eq_true (p:=r.syms.length=0) acK,decide_eq_true (p:=r.kids.length=1) acK];first|rfl|(simp_all;done))|(rw[iX (r:=r) acK,decide_eq_false (p:=r.kids.length=1) acK,abD,abG];first|done|rfl|(simp_all;done))|(rw[iX (r:=r) acK,decide_eq_false (p:=r.syms.length=0) acK,abD];first|done|rfl|(simp_all;done))|(rw[lU (r:=r) acK];simp_all;done)|(rw[ux (r:=r) acK];done)
abbrev VR:=dF 2 Tryz.func238
theorem vT {x:Rx}(h:ak Tryz.prog 203 [rx x] (.p (bool (cO x)))):ak Tryz.prog 238 [rx x] (.p (bool (!cO x))):=by
 refine cF VR fun w0 M0 aa=>?_
 refine c4 [2,6] [3] [] ?_;refine oC J J J J (h) ?_;refine wZ [8005] ?_;rfl
abbrev Sk:=dF 2 Tryz.func203
theorem G3:∀ (m:Nat)(r:Rx),r.size≤m→m≤1099511627776→ak Tryz.prog 203 [rx r] (.p (bool (cO r))):=by
 intro m
 induction m with
 | zero=>intro a hr _;have:=size_pos a;omega
 | succ m ih =>
 intro r hr hm;have hkl:=ea r;have hsl:=eA r;rw[ft r];refine cF Sk fun w0 M0 aa=>?_
 refine pW [2,3018] [1,4,5] [] ?_ ?_<;>intro h1;refine wZ [8012] ?_;rotate_left;refine wS [3006] [1,4,5] [] ?_ ?_<;>intro h2;refine wZ [8009] ?_;rotate_left;refine wS [3007] [1,4,8] [] ?_ ?_<;>intro h3;refine wA [5] [11] [] ?_;refine oC J J J J (gN (p:=fun x=>!cO x) acK (fun x hx=>vT (ih _ (abf (aaT (de hx) hr)) acK))) ?_;refine wZ [8007] ?_;rotate_left;refine wS [3007] [1,14] [] ?_ ?_<;>intro h4;refine wA [5] [17] [] ?_;refine oC J J J J (gN (p:=cO) acK (fun x hx=>(ih _ (abf (aaT (de hx) hr)) acK))) ?_;refine wZ [8006] ?_;rotate_left;refine wZ [8010] ?_;rotate_left
 all_goals
  rw[qR];first|(rw[if_pos acK,pY];done)|(rw[if_neg acK,if_pos acK];done)|(rw[if_neg acK,if_neg acK];simp_all;done)|(rw[if_neg acK,if_neg acK,decide_eq_false acK];done)
abbrev VS:=dF 2 Tryz.func152
end Go.Proofs.YtlapahnodhmcpaaGreat
namespace Go.Am
section
variable {P:Program}
theorem eD {f n t u:Nat}{c:Code}(hf:F7 P f n t u c){ds:List AV}{r r':AV}(hn:ds.length≤n)
  (h:∀(w0:Fr)(M0:Nat→Prop),(∀b,M0 b→b<w0.w.heap.size)→ao P w0 M0 c (St.enter n .pl ds) (HR t u r r')):aU P f ds (.p (.tup [r,r'])) :=
 ⟨hf.bu,fun w M vs hM hv hr=>pL (cl:=.pl) hf hM hn vs hv (fun j d hd=>(hr j d hd).cd (fun b hb=>Or.elim hb id (fun h=>False.elim h))) (h (Fr.all w) M hM)⟩
end
end Go.Am
namespace Go.Wf
open Go.Am Go.Wb
def VT (r:aF):AV:=.pc (IB r) 0
variable{i:Nat}
theorem fP {P:Nat→Prop}(h:∀j,j<i→P j)(hi:P i):∀j,j<i+1→P j:=fun j hj=>by
 by_cases he:j=i
 ·subst he;exact hi
 ·exact h j acK
variable{r:aF}
theorem G4 (hi:i<r.pairs.length)(h:jv (r.pairs.getD i default)=false):bI r=false:=by unfold bI;rw[Bc hi h];simp
theorem nodup_iff {l:List eK}:(l.map (·.src)).Nodup↔∀j,j<l.length→∀k,k<j→(l.getD k default).src≠(l.getD j default).src:=by
 unfold List.Nodup;rw[abX];constructor
 ·intro h j hj k hk;have:=h k j (by rw[aai];omega) (by rw[aai];omega) hk;rw[acd,acd] at this;rw[eh hj,eh (show k<l.length by omega)];exact this
 ·intro h i j hi hj hij;rw[aai] at hi hj;have:=h j hj i hij;rw[eh hj,eh hi] at this;rw[acd,acd];exact this
theorem G5 {k:Nat}(hi:i<r.pairs.length)(hk:k<i)(h:(r.pairs.getD k default).src=(r.pairs.getD i default).src):bI r=false:=by unfold bI;rw[decide_eq_false fun q=>nodup_iff.1 q i hi k hk h,abG]
theorem G6 (h:∀j,j<r.pairs.length→jv (r.pairs.getD j default)=true)(h2:∀j,j<r.pairs.length→∀k,k<j→(r.pairs.getD k default).src≠(r.pairs.getD j default).src):bI r=(decide (r.pairs.length≤60)&&aR r.left&&aR r.right):=by unfold bI;rw[uZ h,decide_eq_true (nodup_iff.2 h2),Bool.and_true,Bool.and_true]
theorem N7 (h:ji r=false):AV.sc (.map none)=TY r∧bool false=bool (bI r):=by rw[(Si h).1,(Si h).2];exact⟨rfl,rfl⟩
theorem QL (hi:i=r.pairs.length)(h:ji r=true):AV.mp (oV r.pairs i) (TX r.pairs i)=TY r∧bool (decide (((oV r.pairs i).length:Int)=(r.pairs.length:Int)))=bool (bI r):=by subst hi;rw[(G0 h).1,(G0 h).2];exact⟨rfl,congrArg bool (decide_eq_decide.2 ⟨fun q=>by exact_mod_cast q,fun q=>by exact_mod_cast q⟩)⟩
theorem N8 (h:(decide (r.pairs.length≤60)&&aR r.left&&aR r.right)=false):ji r=false:=by unfold ji;rw[h,abD]
theorem Kv (hi:i<r.pairs.length)(h:jv (r.pairs.getD i default)=false):ji r=false:=by unfold ji;rw[Bc hi h,abG]
theorem Kx (h0:(decide (r.pairs.length≤60)&&aR r.left&&aR r.right)=true)(h:∀j,j<r.pairs.length→jv (r.pairs.getD j default)=true):ji r=true:=by unfold ji;rw[h0,uZ h];rfl
end Go.Wf
namespace Go.Proofs.YtlapahnodhmcpaaGreat
open Go.Am Go.Wb Go.Wc Go.Wf
abbrev VU:=dF 4 Tryz.func224
variable{r:aF}
theorem yA {x:Int}(hl:r.pairs.length≤1099511627776):ak Tryz.prog 224 [bn r,int x] (.p (int (eB (fun p=>decide (p.src=x)) r.pairs))):=by
 refine cF VU fun w0 M0 aa=>?_
 refine c4 [2,10] [1,2,5] [] ?_;refine lr (fun zl zo zm zs=>∃i:Nat,zm=r.pairs.length-i∧(i≤r.pairs.length)∧(∀j,j<i→decide ((r.pairs.getD j default).src=x)=false)∧zs=eJ 22 [(5,vvw (int i))] zl [] zo) ?_ ?_;exact⟨_,0,rfl,aan _,fun j hj=>absurd hj acK,rfl⟩;rintro zm zs ⟨i,rfl,aY,aq,rfl⟩;refine wS [6,3003] [1,2,5,10] [] ?_ ?_<;>intro h1;refine wS [10,3006] [1,2,5,20] [] ?_ ?_<;>intro h2;refine wZ [8013] ?_;rw[←nJ (p:=fun p:eK=>decide (p.src=x)) (l:=r.pairs) (k:=i) acK aq (by simp_all)];refine wA [6,9002] [1,2,5] [] ?_;exact⟨_,⟨i+1,rfl,acK,bX aq (by simp_all),rfl⟩,acK⟩;refine wZ [8012] ?_;rw[←lT (p:=fun p:eK=>decide (p.src=x)) (l:=r.pairs) (fun j hj=>aq j acK)]
abbrev VV:=dF 2 Tryz.func178
theorem o5 (hl:r.pairs.length≤1099511627776)(hd:∀p∈r.pairs,p.dst.length≤1099511627776)(h1r:r.left.size≤1099511627776)(h2r:r.right.size≤1099511627776):ak Tryz.prog 178 [bn r] (.p (bool (bI r))):=by
 refine cF VV fun w0 M0 aa=>?_
 refine c4 [2,10] [1,3] [] ?_;refine lr (fun zl zo zm zs=>∃i:Nat,zm=r.pairs.length-i∧(i≤r.pairs.length)∧(∀j,j<i→jv (r.pairs.getD j default)=true)∧(∀j,j<i→∀k,k<j→(r.pairs.getD k default).src≠(r.pairs.getD j default).src)∧zs=eJ 62 [(3,vvw (int i))] zl [] zo) ?_ ?_;exact⟨_,0,rfl,aan _,fun j hj=>absurd hj acK,fun j hj=>absurd hj acK,rfl⟩;rintro zm zs ⟨i,rfl,aY,aq,cY,rfl⟩;refine wS [6,3003] [1,3,10] [] ?_ ?_<;>intro h1;refine wA [10,10] [1,3,4,19] [4] ?_;refine oC J J J J (tE) ?_;refine wS [4002] [1,3,4,22] [4] ?_ ?_<;>intro h2';refine wZ [8026] ?_;rotate_left;refine wS [2,4003] [1,3,4,28] [4] ?_ ?_<;>intro h3';refine wZ [8020] ?_;rotate_left;refine wA [2] [1,3,4,28,30] [4] ?_;refine oC J J J J (tF (hd _ (aM acK))) ?_;refine wS [3004] [1,3,4,33] [4] ?_ ?_<;>intro h4;refine wZ [8013] ?_;rotate_left;refine wA [9] [1,3,4,5] [4] ?_;refine lr (fun zl zo zm zs=>∃k:Nat,zm=i-k∧(k≤i)∧(∀j,j<k→(r.pairs.getD j default).src≠(r.pairs.getD i default).src)∧zs=eJ 62 [(3,vvw (int i)),(5,vvw (int k))] zl [] zo) ?_ ?_;exact⟨_,0,rfl,aan _,fun j hj=>absurd hj acK,rfl⟩;rintro zm zs ⟨k,rfl,fu,gi,rfl⟩;refine wS [3008] [1,3,4,5,36] [4] ?_ ?_<;>intro h5;refine wS [2006,6003,3007] [1,3,4,5,47] [4] ?_ ?_<;>intro h6;refine wZ [8016] ?_;rotate_left;refine wA [6,9002] [1,3,4,5] [4] ?_;exact⟨_,⟨k+1,rfl,acK,fP gi (by simp_all),rfl⟩,acK⟩;refine wA [9,9002] [1,3] [] ?_;exact⟨_,⟨i+1,rfl,acK,bX aq (by unfold jv;simp_all;first|done|omega),fP cY (fun k hk=>gi k acK),rfl⟩,acK⟩;refine wS [10,4002] [1,52] [] ?_ ?_<;>intro h7';refine wA [2] [1,52,54] [] ?_;refine oC J J J J (lb _ _ (aak _) h1r) ?_;refine wS [4002] [1,57] [] ?_ ?_<;>intro h8';refine wA [2] [57,59] [] ?_;refine oC J J J J (lb _ _ (aak _) h2r) ?_;refine wZ [8005] ?_;rotate_left;refine wZ [8008] ?_;rotate_left;refine wZ [8013] ?_;rotate_left
 all_goals
  first
   | (rw[G4 (i:=i) acK (by unfold jv;simp_all;first|done|omega)];done)
   | (rw[G5 (i:=i) (k:=k) acK acK (by simp_all)];done)
   | (rw[G6 (r:=r) (fun j hj=>aq j acK) (fun j hj=>cY j acK)];(simp_all;first|done|omega))
theorem VW:F7 Tryz.prog 165 Tryz.f165.ntmps 2 3 (Tryz.f165.body.getD .skip):=⟨Tryz.f165,Tryz.func165,rfl,rfl,rfl,acL⟩
theorem yB (hl:r.pairs.length≤1099511627776)(hd:∀p∈r.pairs,p.dst.length≤1099511627776)(h1r:r.left.size≤1099511627776)(h2r:r.right.size≤1099511627776):aU Tryz.prog 165 [bn r] (.p (.tup [TY r,bool (bI r)])):=by
 refine eD VW (aah J) fun w0 M0 aa=>?_
 refine c4 [2,6] [1] [] ?_;refine oS J (step_map J J J J J Tryz.underlying245 (fun q hq=>by cases hq<;>exact⟨_,_,rfl⟩) aa) J ?_;refine wS [8,4002] [1,4,12] [7] ?_ ?_<;>intro h1';refine wZ [22] ?_;refine cu J J ?_;rotate_left;refine wA [2] [1,4,12,14] [7] ?_;refine oC J J J J (mB _ _ (aak _) h1r) ?_;refine wS [4003] [1,4,18] [7] ?_ ?_<;>intro h2';refine wZ [16] ?_;refine cu J J ?_;rotate_left;refine wA [2] [1,4,18,20] [7] ?_;refine oC J J J J (mB _ _ (aak _) h2r) ?_;refine wS [3004] [1,4,23] [7] ?_ ?_<;>intro h3;refine wZ [9] ?_;refine cu J J ?_;rotate_left;refine wA [8,4] [1,4,25,26,27] [7] ?_;refine lr (fun zl zo zm zs=>∃i:Nat,zm=r.pairs.length-i∧(i≤r.pairs.length)∧(∀j,j<i→jv (r.pairs.getD j default)=true)∧zs=eJ 60 [(4,.omap 7),(25,vvw (.sl (r.pairs.map yz))),(26,vvw (int r.pairs.length)),(27,vvw (int i))] zl [(7,.mp (oV r.pairs i) (TX r.pairs i))] zo) ?_ ?_;exact⟨_,0,rfl,aan _,fun j hj=>absurd hj acK,rfl⟩;rintro zm zs ⟨i,rfl,aY,aq,rfl⟩;refine wS [3006] [1,4,25,26,27,28] [7] ?_ ?_<;>intro h4;refine wA [7,7] [1,4,6,25,26,27] [6,7] ?_;refine aI 60 [(1,_),(4,_),(6,_),(25,_),(26,_),(27,_)] [(7,_)] aa J ⟨.inl J,.inl J,.inr ⟨_,_,rfl,rfl,rfl⟩,.inl J,.inl J,.inl J,trivial⟩ ⟨rfl,trivial⟩ ?_;refine gz [3] [1,4,6,25,26,27,32] [7] ?_;refine oC J J J J (vR) ?_;refine wS [4002] [1,4,6,25,26,27,35] [7] ?_ ?_<;>intro h5';refine wZ [27] ?_;refine cu J J ?_;rotate_left;refine wS [2,4003] [1,4,6,25,26,27,41] [7] ?_ ?_<;>intro h6';refine wZ [21] ?_;refine cu J J ?_;rotate_left;refine wA [2] [1,4,6,25,26,27,41,43] [7] ?_;refine oC J J J J (vS (hd _ (aM acK))) ?_;refine wS [3004] [1,4,6,25,26,27,46] [7] ?_ ?_<;>intro h7;refine wZ [14] ?_;refine cu J J ?_;rotate_left;refine wA [9] [1,4,25,26,27,47,49,51] [7] ?_;refine oS J (LM J J J Tryz.underlying245 Tryz.underlying3 J J J J J (uX r.pairs i) aa) J ?_;refine wA [4,9002] [1,4,25,26,27] [7] ?_;exact⟨_,⟨i+1,rfl,acK,bX aq (by unfold jv;simp_all;first|done|omega),rfl⟩,acK⟩;refine wA [2007,2] [1,53,54] [7] ?_;refine oD J J J (Jw J Tryz.underlying245 J) ?_;refine wZ [6002,6] ?_;refine cu J J ?_;rotate_left
 all_goals
  first
   | exact N7 (N8 (by simp_all;first|done|omega))
   | exact N7 (Kv (i:=i) acK (by unfold jv;simp_all;first|done|omega))
   | exact QL acK (Kx (by simp_all;first|done|omega) (fun j hj=>aq j acK))
abbrev VX:=dF 2 Tryz.func141
theorem EN (hl:r.pairs.length≤1099511627776)(hd:∀p∈r.pairs,p.dst.length≤1099511627776)(h1r:r.left.size≤1099511627776)(h2r:r.right.size≤1099511627776):ak Tryz.prog 141 [bn r] (.p (bool (bI r))):=by
 refine cF VX fun w0 M0 aa=>?_
 refine c4 [2,6] [6] [] ?_;refine oN J J J J J (yB hl hd h1r h2r) ?_;refine wZ [8014] ?_;rfl
end Go.Proofs.YtlapahnodhmcpaaGreat
namespace Go.Wf
open Go.Am Go.Wb Go.Wc
abbrev strs (l:List (List UInt8)):AV:=.sl (l.map ah)
structure gU where
 name:List UInt8
 pre:List Int
 suf:List Int
 change:List (List UInt8)
 deriving Inhabited,DecidableEq
def EO (c:gU):List AV:=[ah c.name,ints c.pre,ints c.suf,strs c.change]
def dD (c:gU):AV:=.agg (EO c)
structure iy where
 name:List UInt8
 fits:Rx
 strip:Int
 cells:List gU
 deriving Inhabited
def o6 (c:iy):List AV:=[ah c.name,int c.fits.kind,ints c.fits.syms,.sl (Rx.gA c.fits.kids),int c.strip,.sl (c.cells.map dD)]
def bL (c:iy):AV:=.agg (o6 c)
structure QM where
 name:List UInt8
 syms:List Int
 deriving Inhabited,DecidableEq
def jb (s:QM):AV:=.agg [ah s.name,ints s.syms]
structure aC where
 sets:List QM
 rules:List aF
 classes:List iy
 order:List (List UInt8)
 deriving Inhabited
def qp (g:aC):List AV:=[.sl (g.sets.map jb),.sl (g.rules.map bn),.sl (g.classes.map bL),strs g.order]
def cV (g:aC):AV:=.agg (qp g)
def kn (g:aC):AV:=.pc (qp g) 0
def N9 (c:iy):AV:=.pc (o6 c) 0
structure aK where
 cell:List UInt8
 af:List Int
 cuts:List Int
 rules:List (List UInt8)
 deriving Inhabited,DecidableEq
def EP (f:aK):List AV:=[ah f.cell,ints f.af,ints f.cuts,strs f.rules]
def fQ (f:aK):AV:=.agg (EP f)
structure cy where
 lemma_:List Int
 class_:List UInt8
 deriving Inhabited,DecidableEq
def cS (x:cy):AV:=.agg [ints x.lemma_,ah x.class_]
def qq {α:Type}(f:α→List UInt8)(l:List α)(n:List UInt8):Option α:=l.find? fun x=>decide (f x=n)
variable{α:Type}{n:List UInt8}{i:Nat}
theorem qs  [Inhabited α]{f:α→List UInt8}{l:List α}(hi:i<l.length)(h:∀j,j<i→decide (f (l.getD j default)=n)=false)(hp:f (l.getD i default)=n):qq f l n=some (l.getD i default):=by unfold qq;rw[List.find?_eq_some_iff_getElem];refine⟨decide_eq_true hp,i,hi,(eh hi).symm,fun j hj=>?_⟩;have:=h j hj;rw[eh (show j<l.length by omega)] at this;rw[this];rfl
theorem nZ  [Inhabited α]{f:α→List UInt8}{l:List α}(h:∀j,j<l.length→decide (f (l.getD j default)=n)=false):qq f l n=none:=by unfold qq;rw[acB];intro x hx;obtain⟨j,hj,rfl⟩:=List.mem_iff_getElem.1 hx;have:=h j hj;rw[eh hj] at this;simpa using this
def ER:iy:=⟨[],dI,0,[]⟩
def IH:gU:=⟨[],[],[],[]⟩
def fR (g:aC)(n:List UInt8):Option iy:=qq (·.name) g.classes n
def ng (c:iy)(n:List UInt8):Option gU:=qq (·.name) c.cells n
def tG (g:aC)(n:List UInt8):Option aF:=qq (·.name) g.rules n
def wv (g:aC)(l:List (List UInt8)):List aF:=l.map fun n=>(tG g n).getD default
def nh (g:aC)(l:List (List UInt8)):Bool:=l.all fun n=>(tG g n).isSome
def bq (g:aC)(l:List (List UInt8)):List aF:=if nh g l=true then wv g l else[]
variable{g:aC}{l:List (List UInt8)}
theorem CC (hi:i<l.length)(h:tG g (l.getD i default)=none):bq g l=[]∧nh g l=false:=by have:nh g l=false:=Bc hi (by rw[h];rfl);exact⟨if_neg (by rw[this];decide),this⟩
theorem wX (h:∀j,j<l.length→(tG g (l.getD j default)).isSome=true):bq g l=wv g l∧nh g l=true:=by have:nh g l=true:=uZ h;exact⟨if_pos this,this⟩
theorem Bf (hi:i<l.length){r:aF}(h:tG g (l.getD i default)=some r):wv g (l.take (i+1))=wv g (l.take i)++[r]:=by unfold wv;rw[take_succ hi,aas,acD,h];rfl
theorem yC :(wv g l).length=l.length:=aai _
theorem ri  [Inhabited α]{f:α→List UInt8}{l:List α}:(0≤eB (fun x=>decide (f x=n)) l→qq f l n=some (l.getD (eB (fun x=>decide (f x=n)) l).toNat default))∧(eB (fun x=>decide (f x=n)) l<0→qq f l n=none):=by
 unfold eB qq;cases h:l.any fun x=>decide (f x=n) with
 | true =>
   rw[if_pos rfl];refine⟨fun _=>?_,fun h0=>acK⟩;rw[abC];obtain⟨x,hx,hpx⟩:=aaQ.1 h;have hlt:l.findIdx (fun x=>decide (f x=n))<l.length:=acb ⟨x,hx,hpx⟩;rw[eh hlt];have:=List.find?_eq_some_iff_getElem (xs:=l) (p:=fun x=>decide (f x=n)) (b:=l[l.findIdx fun x=>decide (f x=n)]);exact this.2 ⟨List.findIdx_getElem (xs:=l) (p:=fun x=>decide (f x=n)) (w:=hlt),_,hlt,rfl,fun j hj=>by simpa using List.not_of_lt_findIdx hj⟩
 | false =>
   rw[if_neg acM];refine⟨fun h0=>acK,fun _=>?_⟩;rw[acB];intro x hx;have:=abH.1 h x hx;simpa using this
theorem Sl  [Inhabited α]{p:α→Bool}{l:List α}:eB p l<l.length:=by
 unfold eB;split
 ·next h =>
  obtain⟨x,hx,hpx⟩:=aaQ.1 h;have:=acb ⟨x,hx,hpx⟩;omega
 ·omega
end Go.Wf
