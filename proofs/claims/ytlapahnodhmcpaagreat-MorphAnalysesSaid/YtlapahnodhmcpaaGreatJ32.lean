/-
  Part of the proof.
-/
import Derived.Test.YtlapahnodhmcpaaGreatJ0
import Derived.Test.YtlapahnodhmcpaaGreatJ16
import Derived.Test.YtlapahnodhmcpaaGreatJ31
import Derived.Test.YtlapahnodhmcpaaGreatJ15
import Derived.Test.YtlapahnodhmcpaaGreatJ26
set_option linter.unusedVariables false
set_option linter.unusedSectionVars false
set_option linter.unusedSimpArgs false
set_option maxRecDepth 100000
set_option maxHeartbeats 40000000
namespace Go.Wf
open Go.Am Go.Wb Go.Wc
structure J5 (f:aY):Prop where
 ah:f.ah.length≤1048576
 cuts:f.cuts.length≤1048576
 rules:f.rules.length≤1048576
theorem Qi (f g:aY):decide (f=g)=(decide (f.cell=g.cell)&&decide (f.ah=g.ah)&&decide (f.cuts=g.cuts)&&decide (f.rules=g.rules)):=by
 obtain⟨a,b,c,d⟩:=f
 obtain⟨a',b',c',d'⟩:=g
 rw[abE]
 simp[and_assoc]
def qT (l:List Int)(x:Int):Bool:=l.any fun y=>decide (y=x)
theorem Qj {l:List Int}{x:Int}{k:Nat}(hk:k<l.length)(h:l.getD k default=x):qT l x=true:=aay.2 ⟨_,ba hk,decide_eq_true h⟩
theorem NK {l:List Int}{x:Int}(h:∀j,j<l.length→decide (l.getD j default=x)=false):qT l x=false:=by
 unfold qT
 rw[abe]
 intro y hy
 obtain⟨j,hj,rfl⟩:=List.mem_iff_getElem.1 hy
 have:=h j hj
 rw[dT hj] at this
 rw[this];decide
end Go.Wf
namespace Go.Proofs.YtlapahnodhmcpaaGreat
open Go.Am Go.Wb Go.Wc Go.Wf Go.We
abbrev X6:=dU 4 Tryz.func24
theorem ju {a b:List Int}(ha:a.length≤1099511627776)(hb:b.length≤1099511627776):aq Tryz.prog 24 [ints a,ints b] (.p (bool (decide (a=b)))):=by
 refine cF X6 fun w0 M0 aa=>?_
 refine rM [9,1,3003] [0,1,10] [] ?_ ?_<;>intro h1
 refine wZ [8008] ?_
 rw[decide_eq_false];intro he;subst he;exact h1 rfl
 refine wA [10] [0,1,5] [] ?_
 refine lp (fun zm zs=>∃k:Nat,zm=a.length-k∧(k≤a.length)∧(a.take k=b.take k)∧zs=⟨26,[(0,vvz (ints a)),(1,vvz (ints b)),(5,vvw (int k))],[]⟩) ?_ ?_
 exact⟨_,0,rfl,Z5 _,rfl,rfl⟩
 rintro zm zs ⟨k,rfl,aZ,au,rfl⟩
 refine wS [5,3003] [0,1,5,14] [] ?_ ?_<;>intro h2
 refine wS [2006,6002,6003,3004] [0,1,5,25] [] ?_ ?_<;>intro h3
 refine wZ [8012] ?_
 rw[decide_eq_false];intro he;subst he;exact h3 rfl
 refine wA [6,9002] [0,1,5] [] ?_
 exact⟨_,⟨k+1,rfl,ace,by rw[take_succ ace,take_succ ace,au,h3],rfl⟩,ace⟩
 refine wZ [8012] ?_
 rw[decide_eq_true];have h:=au;rw[aaj ace,aaj ace] at h;exact h
abbrev X7:=dU 4 Tryz.func60
theorem yo {a b:List (List UInt8)}(ha:a.length≤1099511627776)(hb:b.length≤1099511627776):aq Tryz.prog 60 [strs a,strs b] (.p (bool (decide (a=b)))):=by
 refine cF X7 fun w0 M0 aa=>?_
 refine rM [9,1,3003] [0,1,10] [] ?_ ?_<;>intro h1
 refine wZ [8008] ?_
 rw[decide_eq_false];intro he;subst he;exact h1 rfl
 refine wA [10] [0,1,5] [] ?_
 refine lp (fun zm zs=>∃k:Nat,zm=a.length-k∧(k≤a.length)∧(a.take k=b.take k)∧zs=⟨26,[(0,vvz (strs a)),(1,vvz (strs b)),(5,vvw (int k))],[]⟩) ?_ ?_
 exact⟨_,0,rfl,Z5 _,rfl,rfl⟩
 rintro zm zs ⟨k,rfl,aZ,au,rfl⟩
 refine wS [5,3003] [0,1,5,14] [] ?_ ?_<;>intro h2
 refine wS [2006,6002,6003,6001,3002] [0,1,5,25] [] ?_ ?_<;>intro h3
 refine wZ [8012] ?_
 rw[decide_eq_false];intro he;subst he;exact h3 rfl
 refine wA [6,9002] [0,1,5] [] ?_
 exact⟨_,⟨k+1,rfl,ace,by rw[take_succ ace,take_succ ace,au,h3],rfl⟩,ace⟩
 refine wZ [8012] ?_
 rw[decide_eq_true];have h:=au;rw[aaj ace,aaj ace] at h;exact h
abbrev X8:=dU 4 Tryz.func32
theorem y8 {f g:aY}(hf:J5 f)(hg:J5 g):aq Tryz.prog 32 [iG f,iG g] (.p (bool (decide (f=g)))):=by
 refine cF X8 fun w0 M0 aa=>?_
 refine rM [2,0,9,4001] [2,3,10] [] ?_ ?_<;>intro h1'
 refine wA [4] [2,3,10,12,14] [] ?_
 refine oC J J J J (ju (by have:=hf.ah;omega) (by have:=hg.ah;omega)) ?_
 refine wS [4002] [2,3,17] [] ?_ ?_<;>intro h2'
 refine wA [4] [2,3,17,19,21] [] ?_
 refine oC J J J J (ju (by have:=hf.cuts;omega) (by have:=hg.cuts;omega)) ?_
 refine wS [4002] [2,3,24] [] ?_ ?_<;>intro h3'
 refine wA [4] [24,26,28] [] ?_
 refine oC J J J J (yo (by have:=hf.rules;omega) (by have:=hg.rules;omega)) ?_
 refine wZ [8005] ?_;rotate_left
 refine wZ [8010] ?_;rotate_left
 refine wZ [8017] ?_;rotate_left
 refine wZ [8024] ?_;rotate_left
 all_goals
  rw[Qi];simp_all
abbrev X9:=dU 4 Tryz.func55
theorem GC {l:List Int}{x:Int}(hl:l.length≤1099511627776):aq Tryz.prog 55 [ints l,int x] (.p (bool (qT l x))):=by
 refine cF X9 fun w0 M0 aa=>?_
 refine c6 [12] [0,1,5] [] ?_
 refine lp (fun zm zs=>∃k:Nat,zm=l.length-k∧(k≤l.length)∧(∀j,j<k→decide (l.getD j default=x)=false)∧zs=⟨18,[(0,vvz (ints l)),(1,vvz (int x)),(5,vvw (int k))],[]⟩) ?_ ?_
 exact⟨_,0,rfl,Z5 _,fun j hj=>absurd hj ace,rfl⟩
 rintro zm zs ⟨k,rfl,aZ,au,rfl⟩
 refine wS [5,3003] [0,1,5,9] [] ?_ ?_<;>intro h1
 refine wS [9,3005] [0,1,5,17] [] ?_ ?_<;>intro h2
 refine wZ [8012] ?_;rotate_left
 refine wA [6,9002] [0,1,5] [] ?_
 exact⟨_,⟨k+1,rfl,ace,b7 au (by simp_all),rfl⟩,ace⟩
 refine wZ [8012] ?_;rotate_left
 all_goals
  first|(rw[Qj (k:=k) ace (by simp_all)];done)|(rw[NK (fun j hj=>au j ace)];done)
end Go.Proofs.YtlapahnodhmcpaaGreat
namespace Go.Wf
open Go.Am Go.Wb Go.Wc
def mu:List Int→List Int→Bool
 | [],[]=>false
 | [],_ :: _=>true
 | _ :: _,[]=>false
 | x :: a,y :: b=>if x=y then mu a b else decide (x<y)
theorem Et {a b:List Int}{k:Nat}(ha:k<a.length)(hb:k<b.length):mu (a.drop k) (b.drop k)=if a.getD k default=b.getD k default then mu (a.drop (k+1)) (b.drop (k+1)) else decide (a.getD k default<b.getD k default):=by
 rw[abh ha,abh hb,mu,dT ha,dT hb]
theorem Qk {a b:List Int}{k:Nat}(h:¬(k<a.length∧k<b.length)):mu (a.drop k) (b.drop k)=decide (k ≥ a.length∧k<b.length):=by
 rcases aaq k a.length with ha|ha
 ·rw[abh ha,aaU (l:=b) ace,decide_eq_false ace];rfl
 ·rw[aaU ha]
  rcases aaq k b.length with hb|hb
  ·rw[abh hb,decide_eq_true ⟨ha,hb⟩];rfl
  ·rw[aaU hb,decide_eq_false ace];rfl
def lf:List (List Int)→List Int→List (List Int)
 | [],x=>[x]
 | y :: l,x=>if mu y x=true then y :: lf l x else if y=x then y :: l else x :: y :: l
theorem Eu:∀ {l:List (List Int)}{x:List Int}{k:Nat},k<l.length→(∀j,j<k→mu (l.getD j default) x=true)→l.getD k default=x→mu x x=false→lf l x=l
 | y :: l, x, 0, _, _, h, hn => by
   have:y=x:=h
   subst this
   unfold lf;rw[if_neg (by rw[hn];decide),if_pos rfl]
 | y :: l, x, k + 1, hk, hb, h, hn => by
   have h0:mu y x=true:=hb 0 ace
   unfold lf
   rw[if_pos h0,Eu (l:=l) (k:=k) (by simpa using hk) (fun j hj=>hb (j+1) ace) h hn]
theorem Ev:∀ x:List Int,mu x x=false
 | []=>rfl
 | a :: x=>by unfold mu;rw[if_pos rfl];exact Ev x
theorem H9:∀ {l:List (List Int)}{x:List Int}{k:Nat},k≤l.length→(∀j,j<k→mu (l.getD j default) x=true)→(k<l.length→mu (l.getD k default) x=false)→(k<l.length→l.getD k default≠x)→lf l x=l.take k++[x]++l.drop k
 | [], x, k, hk, _, _, _ => by
   have:k=0:=by simpa using hk
   subst this;rfl
 | y :: l, x, 0, _, _, h, hn => by
   have h0:mu y x=false:=h (by simp)
   have h1:y≠x:=hn (by simp)
   unfold lf;rw[if_neg (by rw[h0];decide),if_neg h1];rfl
 | y :: l, x, k + 1, hk, hb, h, hn => by
   have h0:mu y x=true:=hb 0 ace
   unfold lf
   rw[if_pos h0,H9 (l:=l) (k:=k) (by simpa using hk) (fun j hj=>hb (j+1) ace) (fun q=>h (by simpa using q)) (fun q=>hn (by simpa using q))]
   rfl
end Go.Wf
namespace Go.Proofs.YtlapahnodhmcpaaGreat
open Go.Am Go.Wb Go.Wc Go.Wf Go.We
abbrev Ya:=dU 4 Tryz.func89
theorem Ew {a b:List Int}(ha:a.length≤1099511627776)(hb:b.length≤1099511627776):aq Tryz.prog 89 [ints a,ints b] (.p (bool (mu a b))):=by
 refine cF Ya fun w0 M0 aa=>?_
 refine c6 [12] [0,1,5] [] ?_
 refine lp (fun zm zs=>∃k:Nat,zm=a.length-k∧(k≤a.length)∧(k≤b.length)∧(mu a b=mu (a.drop k) (b.drop k))∧zs=⟨41,[(0,vvz (ints a)),(1,vvz (ints b)),(5,vvw (int k))],[]⟩) ?_ ?_
 exact⟨_,0,rfl,Z5 _,Z5 _,rfl,rfl⟩
 rintro zm zs ⟨k,rfl,aZ,au,cX,rfl⟩
 refine wS [5,4002] [0,1,5,10] [] ?_ ?_<;>intro h1'
 refine wS [2,3004] [0,1,5,15] [] ?_ ?_<;>intro h2
 refine wS [2006,6002,6003,3004] [0,1,5,26] [] ?_ ?_<;>intro h3
 refine wZ [2002,6002,6003,8011] ?_;rotate_left
 refine wA [6,9002] [0,1,5] [] ?_
 exact⟨_,⟨k+1,rfl,ace,ace,by rw[cX,Et ace ace,if_pos ace],rfl⟩,ace⟩
 refine wZ [9,1,8005] ?_;rotate_left
 refine wZ [16,1,8005] ?_;rotate_left
 all_goals
  first|(rw[cX,Et ace ace,if_neg ace];done)|(rw[cX,Qk ace];first|done|(congr 3;exact decide_eq_decide.2 ace))
abbrev Yb:=dU 4 Tryz.func61
theorem GD {l:List (List Int)}{x:List Int}(hl:l.length≤1048576)(hB:∀y∈l,y.length≤1099511627776)(hx:x.length≤1099511627776):aX Tryz.prog 61 [my l,ints x] (.p (my (lf l x))):=by
 refine cN Yb fun w0 M0 aa=>?_
 refine c6 [12] [0,1,5] [] ?_
 refine lp (fun zm zs=>∃k:Nat,zm=l.length-k∧(k≤l.length)∧(∀j,j<k→mu (l.getD j default) x=true)∧zs=⟨48,[(0,vvw (my l)),(1,vvw (ints x)),(5,vvw (int k))],[]⟩) ?_ ?_
 exact⟨_,0,rfl,Z5 _,fun j hj=>absurd hj ace,rfl⟩
 rintro zm zs ⟨k,rfl,aZ,au,rfl⟩
 refine wS [5,4002] [0,1,5,11] [] ?_ ?_<;>intro h1'
 refine wA [2,2] [0,1,5,11,15,16] [] ?_
 refine oC J J J J (Ew (a:=l.getD k default) (b:=x) (hB _ (ba ace)) hx) ?_
 refine wS [3003] [0,1,5,18] [] ?_ ?_<;>intro h2
 refine wA [6,9003] [0,1,5] [] ?_
 exact⟨_,⟨k+1,rfl,ace,b7 au (by simp_all),rfl⟩,ace⟩
 refine wS [11,4002] [0,1,5,25] [] ?_ ?_<;>intro h3'
 refine wA [2,2] [0,1,5,25,29,30] [] ?_
 refine oC J J J J (ju (a:=l.getD k default) (b:=x) (hB _ (ba ace)) hx) ?_
 refine wS [3003] [0,1,5,32] [] ?_ ?_<;>intro h4
 refine wZ [8009] ?_;rotate_left
 refine wZ [1005,7,5000] ?_
 refine oS J (step_append J J J J Tryz.underlying52 tc J J aa (gI (f:=ints) (l:=l.take k) J (fun _=>rfl)) (by simp only[aab,Z0,aaa,aad,Z9,Z2];omega) (by simp only[aab,Z0,aaa,aad,Z9,Z2];omega)) J ?_
 refine wZ [7,5000] ?_
 refine oS J (step_append J J J J Tryz.underlying52 tc J J aa (cZ J (cw (by rfl))) (by simp only[aab,Z0,aaa,aad,Z9,Z2];omega) (by simp only[aab,Z0,aaa,aad,Z9,Z2];omega)) J ?_
 refine wZ [8,5000] ?_
 refine oS J (step_append J J J J Tryz.underlying52 tc J J aa (gI (f:=ints) (l:=l.drop k) J (fun _=>rfl)) (by simp only[aab,Z0,aaa,aad,Z9,Z2];omega) (by simp only[aab,Z0,aaa,aad,Z9,Z2];omega)) J ?_
 refine kj 48 [(47,_)] [] aa J ⟨.inr ⟨_,_,rfl,rfl,rfl⟩,trivial⟩ trivial ?_
 refine FC [8004] ?_;rotate_left
 refine wZ [1014,7,5000] ?_
 refine oS J (step_append J J J J Tryz.underlying52 tc J J aa (gI (f:=ints) (l:=l.take k) J (fun _=>rfl)) (by simp only[aab,Z0,aaa,aad,Z9,Z2];omega) (by simp only[aab,Z0,aaa,aad,Z9,Z2];omega)) J ?_
 refine wZ [7,5000] ?_
 refine oS J (step_append J J J J Tryz.underlying52 tc J J aa (cZ J (cw (by rfl))) (by simp only[aab,Z0,aaa,aad,Z9,Z2];omega) (by simp only[aab,Z0,aaa,aad,Z9,Z2];omega)) J ?_
 refine wZ [8,5000] ?_
 refine oS J (step_append J J J J Tryz.underlying52 tc J J aa (gI (f:=ints) (l:=l.drop k) J (fun _=>rfl)) (by simp only[aab,Z0,aaa,aad,Z9,Z2];omega) (by simp only[aab,Z0,aaa,aad,Z9,Z2];omega)) J ?_
 refine kj 48 [(47,_)] [] aa J ⟨.inr ⟨_,_,rfl,rfl,rfl⟩,trivial⟩ trivial ?_
 refine FC [8004] ?_;rotate_left
 refine wS [20,4002] [0,1,5,25] [] ?_ ?_<;>intro h5'
 refine wA [2,2] [0,1,5,25,29,30] [] ?_
 refine oC J J J J (ju (a:=l.getD k default) (b:=x) (hB _ (ba ace)) hx) ?_
 refine wS [3003] [0,1,5,32] [] ?_ ?_<;>intro h6
 refine wZ [8009] ?_;rotate_left
 refine wZ [1005,7,5000] ?_
 refine oS J (step_append J J J J Tryz.underlying52 tc J J aa (gI (f:=ints) (l:=l.take k) J (fun _=>rfl)) (by simp only[aab,Z0,aaa,aad,Z9,Z2];omega) (by simp only[aab,Z0,aaa,aad,Z9,Z2];omega)) J ?_
 refine wZ [7,5000] ?_
 refine oS J (step_append J J J J Tryz.underlying52 tc J J aa (cZ J (cw (by rfl))) (by simp only[aab,Z0,aaa,aad,Z9,Z2];omega) (by simp only[aab,Z0,aaa,aad,Z9,Z2];omega)) J ?_
 refine wZ [8,5000] ?_
 refine oS J (step_append J J J J Tryz.underlying52 tc J J aa (gI (f:=ints) (l:=l.drop k) J (fun _=>rfl)) (by simp only[aab,Z0,aaa,aad,Z9,Z2];omega) (by simp only[aab,Z0,aaa,aad,Z9,Z2];omega)) J ?_
 refine kj 48 [(47,_)] [] aa J ⟨.inr ⟨_,_,rfl,rfl,rfl⟩,trivial⟩ trivial ?_
 refine FC [8004] ?_;rotate_left
 refine wZ [1014,7,5000] ?_
 refine oS J (step_append J J J J Tryz.underlying52 tc J J aa (gI (f:=ints) (l:=l.take k) J (fun _=>rfl)) (by simp only[aab,Z0,aaa,aad,Z9,Z2];omega) (by simp only[aab,Z0,aaa,aad,Z9,Z2];omega)) J ?_
 refine wZ [7,5000] ?_
 refine oS J (step_append J J J J Tryz.underlying52 tc J J aa (cZ J (cw (by rfl))) (by simp only[aab,Z0,aaa,aad,Z9,Z2];omega) (by simp only[aab,Z0,aaa,aad,Z9,Z2];omega)) J ?_
 refine wZ [8,5000] ?_
 refine oS J (step_append J J J J Tryz.underlying52 tc J J aa (gI (f:=ints) (l:=l.drop k) J (fun _=>rfl)) (by simp only[aab,Z0,aaa,aad,Z9,Z2];omega) (by simp only[aab,Z0,aaa,aad,Z9,Z2];omega)) J ?_
 refine kj 48 [(47,_)] [] aa J ⟨.inr ⟨_,_,rfl,rfl,rfl⟩,trivial⟩ trivial ?_
 refine FC [8004] ?_;rotate_left
 all_goals
  first|(rw[Eu (k:=k) ace au ach (Ev x)];first|done|rfl)|(rw[H9 (k:=k) ace au (fun q=>by first|(exfalso;omega)|assumption) (fun q=>by first|(exfalso;omega)|assumption)];show _=RV.p (.sl ((l.take k++[x]++l.drop k).map ints));rw[Z8,Z8];rfl)
end Go.Proofs.YtlapahnodhmcpaaGreat
namespace Go.Wf
open Go.Am Go.Wb Go.Wc
abbrev bV (l:List aY):AV:=.sl (l.map iG)
structure uG where
 g:aI
 l:List dY
 f:List (List aY)
 deriving Inhabited
def Wj (m:uG):List AV:=[.sl (m.g.sets.map jJ),.sl (m.g.rules.map bm),.sl (m.g.classes.map bT),strs m.g.order,.sl (m.l.map dm),.sl (m.f.map bV)]
def J6 (m:uG):AV:=.agg (Wj m)
def NL (m:uG):AV:=.pc (Wj m) 0
end Go.Wf
namespace Go.Proofs.YtlapahnodhmcpaaGreat
open Go.Am Go.Wb Go.Wc Go.Wf Go.We
end Go.Proofs.YtlapahnodhmcpaaGreat
namespace Go.Wf
open Go.Am Go.Wb Go.Wc
def Ia:aY:=⟨[],[],[],[]⟩
def bS (g:aI)(cl:List UInt8)(w:List Int):List Int:=w.take ((w.length:Int)-(bh g cl).strip).toNat
def jv (g:aI)(cl cn:List UInt8):List aG:=bq g (bP g cl cn).change
def nV (g:aI):List aG:=bq g g.order
def uH (g:aI)(cl cn:List UInt8)(w:List Int):List Int:=iH [(bP g cl cn).pre,wK (bS g cl w) (jv g cl cn),(bP g cl cn).suf]
def dz (g:aI)(cl cn:List UInt8)(w:List Int):Int:=if gP g cl cn≠0 then gP g cl cn else if ja (bh g cl) w=false then 1 else if bz (bS g cl w) (jv g cl cn)=false then 4
 else if 64<(uH g cl cn w).length then 4 else if bz (uH g cl cn w) (nV g)=false then 4 else 0
def fX (g:aI)(cl cn:List UInt8)(w:List Int):aY:=if dz g cl cn w=0 then
   ⟨cn,gO (wK (uH g cl cn w) (nV g)),J3 (wK (uH g cl cn w) (nV g)),nK (bS g cl w) (jv g cl cn)++nK (uH g cl cn w) (nV g)⟩
 else Ia
variable {g:aI} {cl cn:List UInt8}{w:List Int}
theorem kY {e:Int}(h:dz g cl cn w=e)(h0:e≠0):fX g cl cn w=Ia:=if_neg (by rw[h];exact h0)
theorem nO (h:gP g cl cn≠0):dz g cl cn w=gP g cl cn:=if_pos h
theorem tw (h:gP g cl cn=0)(h1:ja (bh g cl) w=false):dz g cl cn w=1:=by unfold dz;rw[if_neg (by rw[h];decide),if_pos h1]
theorem Cd (h:gP g cl cn=0)(h1:ja (bh g cl) w=true)(h2:bz (bS g cl w) (jv g cl cn)=false):dz g cl cn w=4:=by unfold dz;rw[if_neg (by rw[h];decide),if_neg (by rw[h1];decide),if_pos h2]
theorem Ce (h:gP g cl cn=0)(h1:ja (bh g cl) w=true)(h3:64<(uH g cl cn w).length):dz g cl cn w=4:=by
 unfold dz;rw[if_neg (by rw[h];decide),if_neg (by rw[h1];decide),if_pos h3];split<;>rfl
theorem Cg (h:gP g cl cn=0)(h1:ja (bh g cl) w=true)(h4:bz (uH g cl cn w) (nV g)=false):dz g cl cn w=4:=by
 unfold dz;rw[if_neg (by rw[h];decide),if_neg (by rw[h1];decide),if_pos h4];split
 ·rfl
 ·split<;>rfl
theorem Ib (h:gP g cl cn=0)(h1:ja (bh g cl) w=true)(h2:bz (bS g cl w) (jv g cl cn)=true)(h3:¬64<(uH g cl cn w).length)(h4:bz (uH g cl cn w) (nV g)=true):dz g cl cn w=0:=by
 unfold dz;rw[if_neg (by rw[h];decide),if_neg (by rw[h1];decide),if_neg (by rw[h2];decide),if_neg h3,if_neg (by rw[h4];decide)]
theorem tx {c:iq}{w:List Int}(h:ja c w=true):0≤c.strip∧c.strip<w.length∧w.length≤24:=by
 unfold ja at h
 simp only[aae,decide_eq_true_eq] at h
 exact⟨h.1.1.1.1.1,h.1.1.1.2,h.1.1.2⟩
theorem r7:∀ {l:List aG}{w:List Int},bz w l=true→w.length≤64→(wK w l).length≤64
 | [],w,_,h=>h
 | r :: l, w, h, _ => by
   unfold bz at h
   rw[aae,decide_eq_true_eq] at h
   exact r7 (l:=l) h.2 h.1
theorem NM {w:List Int}{l:List aG}(hw:w.length≤64):(if bz w l=true then wK w l else[]).length≤64:=by
 split
 ·next h=>exact r7 h hw
 ·exact Z5 _
theorem Ch {w:List Int}{l:List aG}:(if bz w l=true then nK w l else[]).length≤l.length:=by
 split
 ·exact oQ _ _
 ·exact Z5 _
theorem p9 (h:ja (bh g cl) w=true):(bS g cl w).length≤24:=by
 have:=tx h
 unfold bS;rw[aaa];omega
theorem Wk (h:bz (bS g cl w) (jv g cl cn)=true):iH [(bP g cl cn).pre,(if bz (bS g cl w) (jv g cl cn)=true then wK (bS g cl w) (jv g cl cn) else[]),(bP g cl cn).suf]=uH g cl cn w:=by rw[if_pos h];rfl
end Go.Wf
namespace Go.Proofs.YtlapahnodhmcpaaGreat
open Go.Am Go.Wb Go.Wc Go.Wf Go.We
theorem qa {w:List Int}{l:List aG}(hw:w.length≤64)(hl:l.length≤1048576)(hR:∀r∈l,Qg r) :
   Ls Tryz.prog 115 [ints w,.sl (l.map bm)] (ints (if bz w l=true then wK w l else[])) 9 ((if bz w l=true then nK w l else[]).map aj) (bool (bz w l)):=by
 refine yW RO (ZZ J) fun w0 M0 aa=>?_
 refine c6 [1009,9] [0,1,7,8] [7] ?_
 refine lp (fun zm zs=>∃i:Nat,zm=l.length-i∧(i≤l.length)∧(bz w (l.take i)=true)∧((wK w (l.take i)).length≤64)∧zs=⟨40,[(0,vvw (ints (wK w (l.take i)))),(1,vvw (.sl (l.map bm))),(7,.own 7),(8,vvw (int i))],[(7,.arr 9 ((nK w (l.take i)).map aj))]⟩) ?_ ?_
 exact⟨_,0,rfl,Z5 _,rfl,hw,rfl⟩
 rintro zm zs ⟨i,rfl,aZ,au,cX,rfl⟩
 have ND:=fun h:i<l.length=>hR _ (ba h)
 have hn:(nK w (l.take i)).length≤l.length:=aau (oQ _ _) (by rw[aaa];omega)
 refine wS [5,3003] [0,1,7,8,13] [7] ?_ ?_<;>intro h1
 refine wA [9,2] [0,1,7,8,19,20] [7] ?_
 refine oC J J J J (by have h:=vu (r:=l.getD i default) (w:=(wK w (l.take i))) ace (by have:=(ND ace).pairs;omega) (fun p hp=>aau ((ND ace).dst p hp) acg) (by have:=(ND ace).left;omega) (by have:=(ND ace).right;omega);rw[←D1] at h;exact h) ?_
 refine wA [8] [1,7,8,9,22,23] [7] ?_
 refine oC J J J J (rm (a:=bp (l.getD i default) (wK w (l.take i))) (b:=(wK w (l.take i))) (by have:=oR (r:=l.getD i default) (w:=(wK w (l.take i)));omega) ace) ?_
 refine wS [3003] [1,7,8,9,25] [7] ?_ ?_<;>intro h2
 refine wS [5,2,1000,12,3003] [0,1,7,8,37] [7] ?_ ?_<;>intro h3
 refine wZ [14] ?_
 refine sP J J J ?_;rotate_left
 refine wA [6,9002] [0,1,7,8] [7] ?_;rotate_left
 refine wS [12,3003] [0,1,7,8,37] [7] ?_ ?_<;>intro h4
 refine wZ [14] ?_
 refine sP J J J ?_;rotate_left
 refine wA [6,9002] [0,1,7,8] [7] ?_;rotate_left
 refine wZ [16] ?_
 refine Bh J J J J ?_;rotate_left
 all_goals first
  | (
    first
      | (rw[AI (i:=i) ace (by rw[fq ace];omega)];exact⟨rfl,rfl,rfl⟩)
      | (rw[aaj ace] at *;rw[show bz w l=true by assumption];exact⟨rfl,rfl,rfl⟩);done)
  | (
    exact⟨_,⟨i+1,rfl,ace,(by rw[mT ace,au,fq ace,aaZ];exact decide_eq_true ace),(by rw[fq ace];omega),by rw[fq ace,tp ace];first|(rw[if_pos ach,aav];rfl)|(rw[if_neg ach,Z8];rfl)⟩,ace⟩;done)
theorem Ex {g:aI}{cl cn:List UInt8}(hg:sk g)(hu:gP g cl cn=0):aX Tryz.prog 112 [df g,aj cl,aj cn] (.p (.tup [.sl ((jv g cl cn).map bm),.sl ((nV g).map bm),int 0])):=by
 have h:=tv (cl:=cl) (cn:=cn) hg
 rw[if_pos hu,if_pos hu,hu] at h;exact h
theorem GF {g:aI}{cl cn:List UInt8}(hg:sk g)(hu:gP g cl cn≠0):aX Tryz.prog 112 [df g,aj cl,aj cn] (.p (.tup [.sl [],.sl [],int (gP g cl cn)])):=by
 have h:=tv (cl:=cl) (cn:=cn) hg
 rw[if_neg hu,if_neg hu] at h;exact h
theorem Wl:Ba Tryz.prog 79 Tryz.f79.ntmps 8 64 4 9 (Tryz.f79.body.getD .skip):=⟨Tryz.f79,Tryz.func79,rfl,rfl,rfl,acf,PO,F7⟩
abbrev NN (g:aI)(cl cn:List UInt8)(w:List Int):Prop:=aX Tryz.prog 79 [df g,aj cl,ints w,aj cn] (.p (.tup [iG (fX g cl cn w),int (dz g cl cn w)]))
theorem J7 {g : aI} {cl cn : List UInt8} {w : List Int} (hg : sk g) (hw : w.length ≤ 1099511627776) (hu : gP g cl cn = 0) : NN g cl cn w := by
 have hch:(jv g cl cn).length≤1000:=aau kH (jt hg cl cn).change
 have hod:(nV g).length≤1000:=aau kH hg.order
 have hn1:=oQ (jv g cl cn) (bS g cl w)
 have hn2:=oQ (nV g) (uH g cl cn w)
 have hpre:=(jt hg cl cn).pre
 have hsuf:=(jt hg cl cn).suf
 refine du Wl (ZZ J) fun w0 M0 aa=>?_
 refine c6 [2,9] [1,2,3,4,8,26,27,28] [8] ?_
 refine oN J J J J J (Ex hg hu) ?_
 refine wA [13] [1,2,3,4,8,10,11,12,33] [8] ?_
 refine oP J (cI (b':=false) (gU J J J) (by rfl)) ?_
 refine wA [9] [2,3,8,10,11,38,39] [8] ?_
 refine oN J J J J J (oT (by have:=hg.nclasses;omega)) ?_
 refine wA [9] [2,3,8,10,11,13] [8,13] ?_
 refine aS 103 [(2,_),(3,_),(8,_),(10,_),(11,_),(13,_)] [(8,_)] aa J ⟨.inl J,.inl J,.inl J,.inl J,.inl J,.inr ⟨_,_,rfl,rfl,rfl⟩,trivial⟩ ⟨rfl,trivial⟩ ?_
 refine gS [3] [2,3,8,10,11,13,44,45] [8] ?_
 refine oN J J J J J (vB (by have:=(lb hg cl).cells;omega)) ?_
 refine wA [10] [2,3,8,10,11,13,15] [8,15] ?_
 refine aS 103 [(2,_),(3,_),(8,_),(10,_),(11,_),(13,_),(15,_)] [(8,_)] aa J ⟨.inl J,.inl J,.inl J,.inl J,.inl J,.inl J,.inr ⟨_,_,rfl,rfl,rfl⟩,trivial⟩ ⟨rfl,trivial⟩ ?_
 refine gS [3] [2,3,8,10,11,13,15,49,50] [8] ?_
 refine oC J J J J (Gy (c:=(bh g cl)) hw (lb hg cl).fits) ?_
 refine wS [3003] [2,3,8,10,11,13,15,52] [8] ?_ ?_<;>intro h1
 refine wA [3] [8] [8] ?_
 refine oP J (aC (aF J DY BR J J J) J) ?_
 refine wZ [6] ?_
 refine bA J J ?_;rotate_left
 refine wA [7,2] [3,8,10,11,15,55,57,59] [8] ?_
 refine oP J (qh J J J (by have:=tx (c:=bh g cl) (w:=w) ach;omega)) ?_
 refine oP J (fa J Tryz.underlying22 y3 J J (by have:=tx (c:=bh g cl) (w:=w) ach;omega) (fun _=>rfl)) ?_
 refine wA [1] [3,8,11,15,61,62] [8] ?_
 refine oS J (w8 J J J J J J (qa (w:=(bS g cl w)) (l:=(jv g cl cn)) (by have:=p9 (g:=g) (cl:=cl) (w:=w) ach;omega) ace (fun r hr=>hg.rules r (gM hr))) aa) J ?_
 refine wA [1] [3,8,11,15,54] [8,63] ?_
 refine oP J (oi J J J) ?_
 refine oP J (xg J J J) ?_
 refine wA [0] [3,8,11,15,54,64,65] [8,63] ?_
 refine oP J (oi J J J) ?_
 refine wS [3012] [3,8,11,15,17,18,68] [8,63] ?_ ?_<;>intro h2
 refine wA [3] [8] [8] ?_
 refine oP J (aC (aF J DY BR J J J) J) ?_
 refine wZ [6] ?_
 refine bA J J ?_;rotate_left
 refine wZ [10,5000] ?_
 refine oC rfl rfl rfl rfl (B7 (l:=[(bP g cl cn).pre,(if bz (bS g cl w) (jv g cl cn)=true then wK (bS g cl w) (jv g cl cn) else[]),(bP g cl cn).suf]) (ZZ rfl) (by intro x hx;have hsl:=p9 (g:=g) (cl:=cl) (w:=w) ach;have hwl:=NM (w:=bS g cl w) (l:=jv g cl cn) ace;simp only[aah,abU,or_false] at hx;rcases hx with rfl|rfl|rfl<;>omega)) ?_
 refine wS [7,3003] [3,8,11,18,20,79] [8,63] ?_ ?_<;>intro h3
 refine wA [3] [8] [8] ?_
 refine oP J (aC (aF J DY BR J J J) J) ?_
 refine wZ [6] ?_
 refine bA J J ?_;rotate_left
 refine wA [7] [3,8,18,82,83] [8,63] ?_
 refine oS J (w8 J J J J J J (qa (w:=(iH [(bP g cl cn).pre,(if bz (bS g cl w) (jv g cl cn)=true then wK (bS g cl w) (jv g cl cn) else[]),(bP g cl cn).suf])) (l:=(nV g)) ace ace (fun r hr=>hg.rules r (gM hr))) aa) J ?_
 refine wA [1] [3,8,18,81] [8,63,84] ?_
 refine oP J (oi J J J) ?_
 refine oP J (xg J J J) ?_
 refine wA [0] [3,8,18,81,85,86] [8,63,84] ?_
 refine oP J (oi J J J) ?_
 refine wS [3012] [3,8,18,20,21,89] [8,63,84] ?_ ?_<;>intro h4
 refine wA [3] [8] [8] ?_
 refine oP J (aC (aF J DY BR J J J) J) ?_
 refine wZ [6] ?_
 refine bA J J ?_;rotate_left
 refine wA [6] [3,8,18,21,92] [8,63,84] ?_
 refine oC J J J J (Es (w:=(if bz (iH [(bP g cl cn).pre,(if bz (bS g cl w) (jv g cl cn)=true then wK (bS g cl w) (jv g cl cn) else[]),(bP g cl cn).suf]) (nV g)=true then wK (iH [(bP g cl cn).pre,(if bz (bS g cl w) (jv g cl cn)=true then wK (bS g cl w) (jv g cl cn) else[]),(bP g cl cn).suf]) (nV g) else[])) (by have:=NM (w:=(iH [(bP g cl cn).pre,(if bz (bS g cl w) (jv g cl cn)=true then wK (bS g cl w) (jv g cl cn) else[]),(bP g cl cn).suf])) (l:=(nV g)) ace;omega)) ?_
 refine wA [14] [8,96,97,98,99,100] [8,63,84] ?_
 refine oS J (step_append J J J J Tryz.underlying27 Uz J J aa (OP J J Xv) (by have hq1:=Ch (w:=bS g cl w) (l:=jv g cl cn);have hq2:=Ch (w:=(iH [(bP g cl cn).pre,(if bz (bS g cl w) (jv g cl cn)=true then wK (bS g cl w) (jv g cl cn) else[]),(bP g cl cn).suf])) (l:=(nV g));simp only[Z0];omega) (by have hq1:=Ch (w:=bS g cl w) (l:=jv g cl cn);have hq2:=Ch (w:=(iH [(bP g cl cn).pre,(if bz (bS g cl w) (jv g cl cn)=true then wK (bS g cl w) (jv g cl cn) else[]),(bP g cl cn).suf])) (l:=(nV g));simp only[Z0];omega)) J ?_
 refine kj 103 [(8,_),(96,_),(97,_),(98,_),(101,_)] [(8,_),(84,_)] aa J ⟨.inl J,.inl J,.inl J,.inl J,.inr ⟨_,_,rfl,rfl,rfl⟩,trivial⟩ ⟨rfl,rfl,trivial⟩ ?_
 refine FC [6] ?_
 refine bA J J ?_;rotate_left
 all_goals
   first
     | (rw[kY (tw hu ach) acg,tw hu ach];exact⟨rfl,rfl⟩)
     | (rw[kY (Cd hu ach ach) acg,Cd hu ach ach];exact⟨rfl,rfl⟩)
     | (have hS : bz (bS g cl w) (jv g cl cn) = true := by assumption
        have e1:=Wk (cn:=cn) hS
        first
        | (rw[kY (Ce hu ach (by rw[←e1];omega)) acg,Ce hu ach (by rw[←e1];omega)];exact⟨rfl,rfl⟩)
        | (rw[kY (Cg hu ach (by rw[←e1];assumption)) acg,Cg hu ach (by rw[←e1];assumption)];exact⟨rfl,rfl⟩)
        | (have Zf : bz (uH g cl cn w) (nV g) = true := by rw [← e1]; assumption
           have e0:=Ib hu ach hS (by rw[←e1];omega) Zf
           unfold fX;rw[if_pos e0,e0];simp only[hS,↓reduceIte,show iH [(bP g cl cn).pre,wK (bS g cl w) (jv g cl cn),(bP g cl cn).suf]=uH g cl cn w from rfl,Zf]
           refine⟨?_,rfl⟩
           show _=AV.agg [aj cn,ints _,ints _,.sl (List.map aj (_++_))]
           rw[Z8];rfl))
theorem NO {g:aI}{cl cn:List UInt8}{w:List Int}(hg:sk g)(hu:gP g cl cn≠0):NN g cl cn w:=by
 refine du Wl (ZZ J) fun w0 M0 aa=>?_
 refine c6 [2,9] [1,2,3,4,8,26,27,28] [8] ?_
 refine oN J J J J J (GF hg hu) ?_
 refine wA [13] [1,2,3,4,8,10,11,12,33] [8] ?_
 refine oP J (cI (b':=true) (gU J J J) (by simp[hu])) ?_
 refine wA [5] [8,12] [8] ?_
 refine oP J (aC (aF J DY BR J J J) J) ?_
 refine wZ [7] ?_
 refine bA J J ?_
 rw[kY (nO hu) hu,nO hu];exact⟨rfl,rfl⟩
theorem GG {g:aI}{cl cn:List UInt8}{w:List Int}(hg:sk g)(hw:w.length≤1099511627776):NN g cl cn w:=by
 by_cases hu:gP g cl cn=0
 ·exact J7 hg hw hu
 ·exact NO hg hu
end Go.Proofs.YtlapahnodhmcpaaGreat
namespace Go.Wf
open Go.Am Go.Wb Go.Wc
def iO (w:List Int):Nat→List Int
 | 0=>[]
 | i+1=>if w.getD i default=63∧0<nL w i then iO w i++[nL w i] else iO w i
abbrev tz (l:List Int):List Int:=sj (fun x y=>decide (x=y)) l
def rq (T:Int)(l:List Int):List Int:=(l.reverse.dropWhile fun x=>decide (x=T)).reverse
theorem oU {l:List Int}(h:0<l.length):l=l.take (l.length-1)++[fj l]:=by
 have:=take_succ (l:=l) (k:=l.length-1) ace
 rw[show l.length-1+1=l.length by omega,aa1] at this
 exact this
theorem yp (l:List Int)(x:Int):fj (l++[x])=x:=by
 unfold fj
 rw[ZY,aab,aaY,Nat.add_sub_cancel,aal (Z1 _),abQ];rfl
theorem r8 (T:Int)(l:List Int)(x:Int):rq T (l++[x])=if x=T then rq T l else l++[x]:=by
 unfold rq
 rw[List.reverse_append,List.reverse_singleton,List.singleton_append,List.dropWhile_cons]
 by_cases h:x=T
 ·rw[if_pos (decide_eq_true h),if_pos h]
 ·rw[if_neg (by simpa using h),if_neg h,List.reverse_cons,abm]
theorem GH {T:Int}{l:List Int}(h:0<l.length)(hl:fj l=T):rq T (l.take (l.length-1))=rq T l:=by
 conv=>rhs;rw[oU h]
 rw[r8,if_pos hl]
theorem AL {T:Int}{l:List Int}(h:¬(0<l.length∧fj l=T)):rq T l=l:=by
 rcases abb l.length with h0|h0
 ·rw[aak h0];rfl
 ·conv=>lhs;rw[oU h0]
  rw[r8,if_neg (fun q=>h ⟨h0,q⟩),←oU h0]
theorem Ey {l m:List Int}:∀{i:Nat},i≤l.length→en (fun x y=>decide (x=y)) (l++m) i=en (fun x y=>decide (x=y)) l i
 | 0,_=>rfl
 | i + 1, h => by
   have e1:(l++m).getD i default=l.getD i default:=by rw[ZY,aan ace,ZY]
   have e2:(l++m).getD (i-1) default=l.getD (i-1) default:=by rw[ZY,aan ace,ZY]
   rw[en,en,e1,e2,Ey ace]
theorem Ez (l:List Int)(x:Int):tz (l++[x])=if 0<l.length∧x=fj l then tz l else tz l++[x]:=by
 show en _ (l++[x]) (l++[x]).length=_
 rw[aab,aaY,en,Ey (Z1 _)]
 have e1:(l++[x]).getD l.length default=x:=by rw[ZY,aal (Z1 _),abQ];rfl
 rw[e1]
 by_cases h:0<l.length
 ·have e2:(l++[x]).getD (l.length-1) default=fj l:=by rw[ZY,aan ace,←ZY];rfl
  rw[e2]
  by_cases q:x=fj l
  ·rw[if_pos ⟨h,decide_eq_true q⟩,if_pos ⟨h,q⟩];rfl
  ·rw[if_neg (fun z=>q (of_decide_eq_true z.2)),if_neg (fun z=>q z.2)];rfl
 ·rw[if_neg (fun z=>h z.1),if_neg (fun z=>h z.1)];rfl
theorem tA:∀ {l:List Int},0<l.length→0<(tz l).length∧fj (tz l)=fj l:=by
 have key:∀(n:Nat)(l:List Int),l.length=n→0<l.length→0<(tz l).length∧fj (tz l)=fj l:=by
   intro n
   induction n with
   | zero=>intro l h h0;omega
   | succ n ih =>
     intro l h h0
     have e:=oU h0
     generalize hm:l.take (l.length-1)=m at e
     have hml:m.length=n:=by rw[←hm,aaa];omega
     generalize fj l=x at e
     subst e
     rw[Ez]
     split
     · next hq =>
       have:=ih m hml hq.1
       exact⟨this.1,this.2.trans hq.2.symm⟩
     · exact⟨by rw[aab];show 0<_+1;omega,yp _ _⟩
 intro l h
 exact key l.length l J h
theorem Wm {w:List Int}:∀{i:Nat},i≤w.length→nL w i≤((gO w).length:Nat):=by
 intro i hi
 unfold nL
 have:gO w=gO (w.take i)++gO (w.drop i):=by
  unfold gO
  rw[←aaW,aa3]
 rw[this,aab];omega
theorem Ic (w : List Int) : ∀ i, i ≤ w.length → ∃ t, tz (iO w i) = eY w i ++ t ∧ (t = [] ∨ (t = [(((gO w).length : Nat) : Int)] ∧ nL w i = ((gO w).length : Nat))) ∧ ∀ x ∈ eY w i, x ≠ ((gO w).length : Nat)
 | 0,_=>⟨[],rfl,.inl rfl,fun x hx=>by cases hx⟩
 | i + 1, hi => by
   obtain⟨t,h1,h2,h3⟩:=Ic w i ace
   generalize hT:(((gO w).length:Nat):Int)=T at *
   have hle:=Wm (w:=w) (i:=i+1) hi
   rw[hT] at hle
   by_cases hx:w.getD i default=63
   · have hn := wv (w := w) (i := i) ace hx
     by_cases h0:0<nL w i
     · have hC : iO w (i + 1) = iO w i ++ [nL w i] := by rw [iO, if_pos ⟨hx, h0⟩]
       rw[hC,Ez,hn]
       have hz:(iO w i).length=0→tz (iO w i)=[]:=fun q=>by rw[aak q];rfl
       by_cases hnT:nL w i=T
       · have hR : eY w (i + 1) = eY w i := pY hx (.inr (.inl (by rw [hT]; exact hnT)))
         rw[hR]
         rcases h2 with rfl|⟨rfl,_⟩
         · rw [aav] at h1
           rw[if_neg,h1,hnT]
           · exact⟨[T],rfl,.inr ⟨rfl,rfl⟩,h3⟩
           · rintro ⟨q1, q2⟩
             have:=tA q1
             have hm:fj (tz (iO w i))∈tz (iO w i):=by
               unfold fj;exact ba ace
             rw[this.2,←q2,h1] at hm
             exact h3 _ hm hnT
         · have hp : 0 < (iO w i).length := by
             rcases abb (iO w i).length with q|q
             · rw[hz q] at h1;simp at h1
             · exact q
           have hl:=(tA hp).2
           rw[h1,yp] at hl
           rw[if_pos ⟨hp,by rw[hnT];exact hl⟩]
           exact⟨[T],h1,.inr ⟨rfl,hnT⟩,h3⟩
       · rcases h2 with rfl | ⟨_, h2⟩
         · rw [aav] at h1
           by_cases hd:0<(iO w i).length∧nL w i=fj (iO w i)
           · have hl := tA hd.1
             rw[h1] at hl
             have hR:eY w (i+1)=eY w i:=pY hx (.inr (.inr ⟨hl.1,hl.2.trans hd.2.symm⟩))
             rw[if_pos hd,hR]
             exact⟨[],by rw[h1,aav],.inl J,h3⟩
           · have hR : eY w (i + 1) = eY w i ++ [nL w i] := by
               refine yn hx ?_
               rintro(q|q|⟨q,q2⟩)
               · omega
               · rw[hT] at q;exact hnT q
               · rw [← h1] at q q2
                 have hp:0<(iO w i).length:=by
                   rcases abb (iO w i).length with z|z
                   · rw[hz z] at q;simp at q
                   · exact z
                 rw[(tA hp).2] at q2
                 exact hd ⟨hp,q2.symm⟩
             rw[if_neg hd,hR,h1]
             refine⟨[],by rw[aav],.inl J,fun x hx=>?_⟩
             rcases aaC.1 hx with hx|hx
             · exact h3 x hx
             · rw[aag.1 hx];exact hnT
         · exact absurd h2 hnT
     · have hC : iO w (i + 1) = iO w i := by rw [iO, if_neg (fun q => h0 q.2)]
       have hge:0≤nL w i:=Int.natCast_nonneg _
       have hR:eY w (i+1)=eY w i:=pY hx (.inl ace)
       rw[hC,hR,hn]
       exact⟨t,h1,h2,h3⟩
   · have hC : iO w (i + 1) = iO w i := by rw [iO, if_neg (fun q => hx q.1)]
     have hn:=B9 (w:=w) (i:=i) ace hx
     rw[hC,Ca hx]
     rcases h2 with rfl|⟨_,h2⟩
     · exact⟨[],h1,.inl J,h3⟩
     · omega
theorem Tu (w:List Int):rq ((gO w).length:Nat) (tz (iO w w.length))=J3 w:=by
 obtain⟨t,h1,h2,h3⟩:=Ic w w.length (Z1 _)
 have h4:rq ((gO w).length:Nat) (eY w w.length)=eY w w.length:=AL fun⟨q,q2⟩=>h3 _ (by unfold fj;exact ba ace) q2
 rw[h1]
 rcases h2 with rfl|⟨rfl,_⟩
 ·rw[aav];exact h4
 ·rw[r8,if_pos rfl];exact h4
theorem tB (w:List Int):∀i,(iO w i).length≤i
 | 0=>Z1 _
 | i + 1 => by
   have:=tB w i
   rw[iO]
   split
   · rw[aab];show _+1≤_;omega
   · omega
theorem Ie {w:List Int}{i:Nat}(h:¬(w.getD i default=63∧0<nL w i)):iO w (i+1)=iO w i:=if_neg h
theorem NP {w:List Int}{i:Nat}(h:w.getD i default=63)(h0:0<nL w i):iO w (i+1)=iO w i++[nL w i]:=if_pos ⟨h,h0⟩
def TS (g:aI)(cl cn:List UInt8)(w:List Int):List Int:=(lj (bS g cl w) (jv g cl cn)).1
def Ci (g:aI)(cl cn:List UInt8)(w:List Int):List Int:=iH [(bP g cl cn).pre,TS g cl cn w,(bP g cl cn).suf]
def CB (g:aI)(cl cn:List UInt8)(w:List Int):Bool:=(lj (bS g cl w) (jv g cl cn)).2.2||decide (64<(Ci g cl cn w).length)
def wP (g:aI)(cl cn:List UInt8)(w:List Int):List Int:=if CB g cl cn w=true then Ci g cl cn w else(lj (Ci g cl cn w) (nV g)).1
def Ql (g:aI)(cl cn:List UInt8)(w:List Int):List (List UInt8):=if CB g cl cn w=true then(lj (bS g cl w) (jv g cl cn)).2.1 else(lj (bS g cl w) (jv g cl cn)).2.1++(lj (Ci g cl cn w) (nV g)).2.1
def Qm (g:aI)(cl cn:List UInt8)(w:List Int):Bool:=if CB g cl cn w=true then true else(lj (Ci g cl cn w) (nV g)).2.2
variable {g:aI} {cl cn:List UInt8}{w:List Int}
theorem Cj (h:CB g cl cn w=false):bz (bS g cl w) (jv g cl cn)=true∧Ci g cl cn w=uH g cl cn w∧¬64<(uH g cl cn w).length∧(lj (bS g cl w) (jv g cl cn)).2.1=nK (bS g cl w) (jv g cl cn):=by
 unfold CB at h
 rw[Bool.or_eq_false_iff,decide_eq_false_iff_not,tu,Bool.not_eq_false'] at h
 have e:=nN h.1
 have ej:Ci g cl cn w=uH g cl cn w:=by unfold Ci TS uH;rw[e]
 exact⟨h.1,ej,by rw[←ej];exact h.2,by rw[e]⟩
theorem AM (hu:gP g cl cn=0)(hf:ja (bh g cl) w=true)(h:Qm g cl cn w=true):dz g cl cn w=4:=by
 unfold Qm at h
 cases hj:CB g cl cn w with
 | true =>
   unfold CB at hj
   cases hs:bz (bS g cl w) (jv g cl cn) with
   | false=>exact Cd hu hf hs
   | true =>
     have e:=nN hs
     have ej:Ci g cl cn w=uH g cl cn w:=by unfold Ci TS uH;rw[e]
     rw[tu,hs,ej,Bool.not_true,Bool.false_or,decide_eq_true_eq] at hj
     exact Ce hu hf hj
 | false =>
   obtain⟨h1,h2,h3,h4⟩:=Cj hj
   rw[hj,if_neg acg,tu,h2,aaJ] at h
   exact Cg hu hf h
theorem yq (hu:gP g cl cn=0)(hf:ja (bh g cl) w=true)(h:Qm g cl cn w=false):dz g cl cn w=0∧fX g cl cn w=⟨cn,gO (wP g cl cn w),J3 (wP g cl cn w),Ql g cl cn w⟩:=by
 unfold Qm at h
 cases hj:CB g cl cn w with
 | true=>rw[hj,if_pos rfl] at h;cases h
 | false =>
   obtain⟨h1,h2,h3,h4⟩:=Cj hj
   rw[hj,if_neg acg,tu,h2,Bool.not_eq_false'] at h
   have e0:=Ib hu hf h1 h3 h
   refine⟨e0,?_⟩
   unfold fX wP Ql
   rw[if_pos e0,hj,if_neg acg,if_neg acg,h4,h2,nN h]
theorem Tv (h:Qm g cl cn w=false):(wP g cl cn w).length≤192:=by
 unfold Qm at h
 cases hj:CB g cl cn w with
 | true=>rw[hj,if_pos rfl] at h;cases h
 | false =>
   obtain⟨h1,h2,h3,h4⟩:=Cj hj
   unfold wP
   rw[hj,if_neg acg,h2]
   exact H7 ace fun _=>ace
theorem Ck:∀ {l:List aG}{w:List Int},(lj w l).2.1.length≤l.length
 | [],w=>Z1 _
 | r :: l, w => by
   have:=Ck (l:=l) (w:=bp r w)
   rw[yj,Z2]
   split
   · show ((if _ then [] else [_]) ++ _).length ≤ _
     rw[aab]
     split<;>simp<;>omega
   · show (if _ then [] else [_] : List (List UInt8)).length ≤ _
     split<;>simp
end Go.Wf
