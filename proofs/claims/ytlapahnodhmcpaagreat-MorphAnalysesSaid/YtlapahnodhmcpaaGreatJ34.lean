/-
  Part of the proof.
-/
import Derived.Test.YtlapahnodhmcpaaGreatJ0
import Derived.Test.YtlapahnodhmcpaaGreatJ33
import Derived.Test.YtlapahnodhmcpaaGreatJ15
import Derived.Test.YtlapahnodhmcpaaGreatJ16
import Derived.Test.YtlapahnodhmcpaaGreatJ21
import Derived.Test.YtlapahnodhmcpaaGreatJ12
set_option linter.unusedVariables false
set_option linter.unusedSectionVars false
set_option linter.unusedSimpArgs false
set_option maxRecDepth 100000
set_option maxHeartbeats 40000000
namespace Go.Wf
open Go.Am Go.Wb Go.Wc Go.RowKit Go.MapKept
def aR (f:List (List aY))(i k:Nat):List (Nat×Nat):=(List.range i).flatMap (fun a=>(List.range (f.getD a default).length).map fun b=>(a,b))++(List.range k).map fun b=>(i,b)
theorem nP (f:List (List aY))(i k:Nat):aR f i (k+1)=aR f i k++[(i,k)]:=by
 unfold aR;rw[aaP,Z8,aaI];rfl
theorem tC {f:List (List aY)}{i k:Nat}(h:k=(f.getD i default).length):aR f i k=aR f (i+1) 0:=by
 subst h
 unfold aR
 rw[aaP (n:=i),abF];simp
def bf (f:List (List aY))(p:Nat×Nat):aY:=(f.getD p.1 default).getD p.2 default
def iP (p:Nat×Nat):AV:=.agg [int p.1,int p.2]
def J9 (s:List UInt8):Value:=.string ⟨s.toArray⟩
def iu (f:List (List aY))(p:Nat×Nat):Value:=J9 (qb (bf f p).ah)
noncomputable def mapStep (f:List (List aY))(s:List Value×List (List AV))(p:Nat×Nat):List Value×List (List AV):=(Go.Am.fL s.1 (iu f p),sR s.1 s.2 (iu f p) (ko s.1 s.2 (iu f p)++[iP p]))
noncomputable def NS (f:List (List aY))(l:List (Nat×Nat)):List Value×List (List AV):=l.foldl (mapStep f) ([],[])
noncomputable def jb (f:List (List aY))(l:List (Nat×Nat)):List Value:=(NS f l).1
noncomputable def mg (f:List (List aY))(l:List (Nat×Nat)):List (List AV):=(NS f l).2
theorem AN (f:List (List aY))(l:List (Nat×Nat))(p:Nat×Nat):NS f (l++[p])=mapStep f (NS f l) p:=by unfold NS;rw[abf];rfl
theorem qI (f:List (List aY))(l:List (Nat×Nat))(p:Nat×Nat):jb f (l++[p])=Go.Am.fL (jb f l) (iu f p):=by unfold jb;rw[AN];rfl
theorem uK (f:List (List aY))(l:List (Nat×Nat))(p:Nat×Nat):mg f (l++[p])=sR (jb f l) (mg f l) (iu f p) (ko (jb f l) (mg f l) (iu f p)++[iP p]):=by unfold mg jb;rw[AN];rfl
theorem ic {α:Type}{C:List α→Prop}(h0:C [])(hs:∀l x,C l→C (l++[x])):∀l,C l:=by
 have key:∀(n:Nat)(l:List α),l.length=n→C l:=by
   intro n
   induction n with
   | zero=>intro l h;rw[aak h];exact h0
   | succ n ih =>
     intro l h
     have hne:l≠[]:=fun q=>by rw[q] at h;cases h
     have e:=List.dropLast_concat_getLast hne
     rw[←e]
     exact hs _ _ (ih _ (by rw[List.length_dropLast];omega))
 exact fun l=>key _ l J
theorem NT {ks:List Value}{k u:Value}(h:u∈Go.Am.fL ks k):u∈ks∨u=k:=by
 unfold Go.Am.fL at h
 split at h
 ·exact .inl h
 ·rcases aaC.1 h with h|h
  ·exact .inl h
  ·exact .inr (aag.1 h)
theorem tD (f:List (List aY))(l:List (Nat×Nat)):∀u∈jb f l,IsKey .string u:=by
 refine ic (C:=fun l=>∀u∈jb f l,IsKey .string u) (fun u hu=>by cases hu) (fun l p ih u hu=>?_) l
 rw[qI] at hu
 rcases NT hu with h|rfl
 ·exact ih u h
 ·trivial
theorem mB (f:List (List aY))(l:List (Nat×Nat)):(jb f l).length=(mg f l).length:=by
 refine ic (C:=fun l=>(jb f l).length=(mg f l).length) J (fun l p ih=>?_) l
 rw[qI,uK]
 unfold Go.Am.fL sR
 cases dI (jb f l) (iu f p) with
 | none=>simp[ih]
 | some i=>simp[ih]
open Classical in
theorem NU {ks:List Value} {rows:List (List AV)} {k key:Value} {xs:List AV} (hl:ks.length=rows.length):ko (Go.Am.fL ks k) (sR ks rows k xs) key=if key=k then xs else ko ks rows key:=by
 unfold Go.Am.fL sR
 cases hp:dI ks k with
 | some i =>
   have hi:i<rows.length:=by rw[←hl];exact(aaf.1 (eN hp)).1
   by_cases h:key=k
   · subst h
     rw[if_pos rfl]
     unfold ko
     rw[hp]
     show(rows.set i xs).getD i []=xs
     rw[ZY,abj hi];rfl
   · rw [if_neg h]
     unfold ko
     cases hk:dI ks key with
     | none=>rfl
     | some j =>
       have hne:i≠j:=fun q=>by
         subst q
         have h1:=eN hp
         have h2:=eN hk
         rw[h1] at h2
         exact h (by injection h2 with h2;exact h2.symm)
       show(rows.set i xs).getD j []=rows.getD j []
       rw[ZY,abo hne,ZY]
 | none =>
   have happ:∀key,key≠k→dI (ks++[k]) key=dI ks key:=fun key h=>by
     have:∀l:List Value,dI (l++[k]) key=dI l key:=by
       intro l
       induction l with
       | nil =>
         show dI [k] key=none
         unfold dI;rw[if_neg (fun q=>h q.symm)];rfl
       | cons x l ih =>
         rw[abq]
         unfold dI
         rw[ih]
     exact this ks
   have hkk:dI (ks++[k]) k=some ks.length:=by
     have:∀l:List Value,dI l k=none→dI (l++[k]) k=some l.length:=by
       intro l
       induction l with
       | nil=>intro _;show dI [k] k=some 0;unfold dI;rw[if_pos rfl]
       | cons x l ih =>
         intro hn
         unfold dI at hn
         rw[abq]
         unfold dI
         by_cases q:x=k
         · rw[if_pos q] at hn;cases hn
         · rw [if_neg q] at hn ⊢
           rw[Option.map_eq_none_iff] at hn
           rw[ih hn];rfl
     exact this ks hp
   by_cases h:key=k
   · subst h
     rw[if_pos rfl]
     unfold ko
     rw[hkk]
     show(rows++[xs]).getD ks.length []=xs
     rw[hl,ZY,aal (Z1 _),abQ];rfl
   · rw [if_neg h]
     unfold ko
     rw[happ key h]
     cases hk:dI ks key with
     | none=>rfl
     | some j =>
       have hj:j<rows.length:=by rw[←hl];exact(aaf.1 (eN hk)).1
       show(rows++[xs]).getD j []=rows.getD j []
       rw[ZY,aan hj,ZY]
noncomputable def atKey (f:List (List aY))(l:List (Nat×Nat))(key:Value):List (Nat×Nat):=by classical exact l.filter fun p=>decide (iu f p=key)
theorem yv (f:List (List aY))(l:List (Nat×Nat))(key:Value):ko (jb f l) (mg f l) key=(atKey f l key).map iP:=by
 classical
 refine ic (C:=fun l=>ko (jb f l) (mg f l) key=(atKey f l key).map iP) J (fun l p ih=>?_) l
 rw[qI,uK,NU (mB f l)]
 unfold atKey
 rw[aaW,Z8]
 by_cases h:key=iu f p
 ·subst h
  rw[if_pos rfl,ih]
  unfold atKey
  congr 1
  rw[aaN,if_pos (decide_eq_true rfl),abp];rfl
 ·rw[if_neg h,ih]
  unfold atKey
  rw[aaN,if_neg (by simpa using fun q=>h q.symm),abp,aa9,aav]
theorem NV {ks:List Value}{rows:List (List AV)}(hl:ks.length=rows.length)(key:Value):(sF (.sc (.slice none 0 0)) ks (rows.map AV.sl) key).norm=.sl (ko ks rows key):=by
 unfold sF ko
 cases hk:dI ks key with
 | none=>rfl
 | some j =>
   have hj:j<rows.length:=by rw[←hl];exact(aaf.1 (eN hk)).1
   show((rows.map AV.sl).getD j _).norm=AV.sl (rows.getD j [])
   rw[ZY,Z6,Z3 hj,ZY,Z3 hj];rfl
noncomputable def WM (l:List dY)(f:List (List aY)):List AV:=[.sl (l.map dm),.sl (f.map bV),.mp (jb f (aR f f.length 0)) ((mg f (aR f f.length 0)).map AV.sl)]
noncomputable def tK (l:List dY)(f:List (List aY)):AV:=.pc (WM l f) 0
def aT (g:aI)(l:List dY):List (List aY):=l.map fun x=>fe g x.class_ x.lemma_
def Cm (g:aI):List dY→Nat×Int
 | []=>(0,0)
 | x :: l=>if cV g x.class_ x.lemma_≠0 then(0,cV g x.class_ x.lemma_) else if(Cm g l).2=0 then(0,0) else((Cm g l).1+1,(Cm g l).2)
def uL (g:aI)(l:List dY):Int:=if 64<l.length then 0 else((Cm g l).1:Nat)
def ni (g:aI)(l:List dY):Int:=if 64<l.length then 4 else(Cm g l).2
variable {g:aI}
theorem Ih:∀ {l:List dY}{i:Nat},i<l.length→(∀j,j<i→decide (cV g (l.getD j default).class_ (l.getD j default).lemma_=0)=true)→cV g (l.getD i default).class_ (l.getD i default).lemma_≠0→Cm g l=(i,cV g (l.getD i default).class_ (l.getD i default).lemma_)
 | [],i,h,_,_=>absurd h (Nat.not_lt_zero i)
 | c :: l,0,_,_,hn=>if_pos hn
 | c :: l, i + 1, h, hz, hn => by
   have h0:cV g c.class_ c.lemma_=0:=of_decide_eq_true (hz 0 ace)
   have ih:=Ih (l:=l) (i:=i) (by simpa using h) (fun j hj=>hz (j+1) ace) hn
   unfold Cm
   have hn':cV g (l.getD i default).class_ (l.getD i default).lemma_≠0:=hn
   rw[if_neg (fun q=>q h0),ih,if_neg hn'];rfl
theorem Cn:∀ {l:List dY},(∀j,j<l.length→decide (cV g (l.getD j default).class_ (l.getD j default).lemma_=0)=true)→Cm g l=(0,0)
 | [],_=>rfl
 | c :: l, h => by
   have h0:cV g c.class_ c.lemma_=0:=of_decide_eq_true (h 0 (by simp))
   unfold Cm
   rw[if_neg (fun q=>q h0),Cn (l:=l) fun j hj=>h (j+1) (by simpa using hj),if_pos rfl]
theorem nQ {l:List dY}(h:64<l.length):uL g l=0∧ni g l=4:=⟨if_pos h,if_pos h⟩
theorem Ii {l:List dY}{i:Nat}(h0:¬64<l.length)(h:i<l.length)(hz:∀j,j<i→decide (cV g (l.getD j default).class_ (l.getD j default).lemma_=0)=true)(hn:cV g (l.getD i default).class_ (l.getD i default).lemma_≠0) :
  uL g l=i∧ni g l=cV g (l.getD i default).class_ (l.getD i default).lemma_:=by
 have e:=Ih h hz hn
 exact⟨by unfold uL;rw[if_neg h0,e],by unfold ni;rw[if_neg h0,e]⟩
theorem Ij {l:List dY}{i:Nat}(h0:¬64<l.length)(hi:l.length≤i)(hz:∀j,j<i→decide (cV g (l.getD j default).class_ (l.getD j default).lemma_=0)=true):uL g l=0∧ni g l=0:=by
 have e:=Cn (g:=g) (l:=l) fun j hj=>hz j ace
 exact⟨by unfold uL;rw[if_neg h0,e];rfl,by unfold ni;rw[if_neg h0,e]⟩
noncomputable def NW (g:aI)(l:List dY):AV:=if ni g l=0 then tK l (aT g l) else .sc (.pointer none)
theorem Ik {l:List dY}{e:Int}(h:ni g l=e)(h0:e≠0):NW g l=.sc (.pointer none):=if_neg (by rw[h];exact h0)
theorem NX {l:List dY}(h:ni g l=0):NW g l=tK l (aT g l):=if_pos h
structure vC (f:List (List aY)):Prop where
 n:f.length≤1000
 row:∀r∈f,r.length≤1000
 form:∀r∈f,∀x∈r,J5 x
theorem yw:J5 Ia:=⟨by decide,by decide,by decide⟩
theorem NY {cl cn:List UInt8} {w:List Int} (hg:sk g):J5 (fX g cl cn w):=by
 unfold fX
 split
 · next h =>
   have h4 : (wK (uH g cl cn w) (nV g)).length ≤ 64 := by
     unfold dz at h
     split at h
     · next h1=>exact absurd h h1
     · split at h
       · cases h
       · split at h
         · cases h
         · split at h
           · cases h
           · next h3 =>
             split at h
             · cases h
             · next h4=>exact r7 (by simpa using h4) ace
   have h5:=tq (wK (uH g cl cn w) (nV g))
   have h6:=Cb (wK (uH g cl cn w) (nV g)) (wK (uH g cl cn w) (nV g)).length
   have h7:=oQ (jv g cl cn) (bS g cl w)
   have h8:=oQ (nV g) (uH g cl cn w)
   have h9:(jv g cl cn).length≤1000:=aau kH (jt hg cl cn).change
   have h10:(nV g).length≤1000:=aau kH hg.order
   refine⟨by show(gO _).length≤_;omega,by show(J3 _).length≤_;unfold J3;omega,?_⟩
   show(_++_:List (List UInt8)).length≤_
   rw[aab];omega
 · exact yw
theorem EH {cl:List UInt8}{w:List Int}(hg:sk g):(fe g cl w).length≤1000∧∀x∈fe g cl w,J5 x:=by
 unfold fe
 split
 ·refine⟨by rw[Z0];exact(lb hg cl).cells,fun x hx=>?_⟩
  obtain⟨c,_,rfl⟩:=aao.1 hx
  exact NY hg
 ·exact⟨Z5 _,fun x hx=>by cases hx⟩
theorem yx (hg:sk g){l:List dY}(hl:l.length≤1000):vC (aT g l):=by
 refine⟨by unfold aT;rw[Z0];exact hl,fun r hr=>?_,fun r hr=>?_⟩
 ·obtain⟨x,_,rfl⟩:=aao.1 hr;exact(EH hg).1
 ·obtain⟨x,_,rfl⟩:=aao.1 hr;exact(EH hg).2
theorem vC.at {f:List (List aY)}(h:vC f){i k:Nat}(hi:i<f.length)(hk:k<(f.getD i default).length):J5 (bf f (i,k)):=h.form _ (ba hi) _ (ba hk)
theorem yy {l:List dY}{i:Nat}(h:i<l.length):aT g (l.take (i+1))=aT g (l.take i)++[fe g (l.getD i default).class_ (l.getD i default).lemma_]:=by unfold aT;rw[take_succ h,Z8];rfl
theorem nR (l:List dY):(aT g l).length=l.length:=Z0 _
theorem EI (f:List (List aY))(i k:Nat):(aR f i k).length=((List.range i).map fun a=>(f.getD a default).length).sum+k:=by
 unfold aR
 rw[aab,Z0,aai,List.length_flatMap]
 congr 2
 exact ab3 fun a _=>by rw[Z0,aai]
theorem GJ {f:Nat→Nat}{B:Nat}:∀n,(∀a,a<n→f a≤B)→((List.range n).map f).sum≤n*B
 | 0,_=>by simp
 | n + 1, h => by
   rw[aaP,Z8,List.sum_append,ab2]
   have:=GJ n fun a ha=>h a ace
   have:=h n ace
   simp only[aaL,aa9,List.sum_cons,List.sum_nil];omega
theorem NZ {F:List (List aY)}{i k:Nat}{key:Value}(hF:vC F)(hi:i<F.length)(hk:k<(F.getD i default).length):(ko (jb F (aR F i k)) (mg F (aR F i k)) key).length≤1000*1000+1000:=by
 rw[yv,Z0]
 have h1:(atKey F (aR F i k) key).length≤(aR F i k).length:=by unfold atKey;exact aba _ _
 have h2:=GJ (f:=fun a=>(F.getD a default).length) (B:=1000) i fun a ha=>hF.row _ (ba ace)
 have h3:=hF.row _ (ba hi)
 have h4:=hF.n
 rw[EI] at h1
 omega
end Go.Wf
namespace Go.Proofs.YtlapahnodhmcpaaGreat
open Go.Am Go.Wb Go.Wc Go.Wf Go.We Go.RowKit Go.MapKept
abbrev Wr:=dU 2 Tryz.func49
theorem Ws:Lt Tryz.prog 49 35 82:=by
 refine yX Wr (ZZ J) fun v w0 M0 aa=>?_
 refine zM [1002,5,4] ?_
 exact Lu J J
theorem Wt {l:List dY}{F:List (List aY)}:aX Tryz.prog 49 [tK l F] (.p (.clo 82 [.pc [tK l F] 0])):=by
 refine cN Wr fun w0 M0 aa=>?_
 refine zM [2,5,8004] ?_
 rfl
noncomputable abbrev GK (l:List dY)(F:List (List aY))(E:List (Nat×Nat)):List (Nat×Ob):=[(1000000,.box 102 [vvw (.sl (l.map dm)),vvw (.sl (F.map bV)),.nst 1000002]),(1000001,.box 35 [.pbox 1000000 0]),(1000002,.nmp (jb F E) (br 107 (mg F E)) none),(1000003,.box 35 [.pbox 1000000 0])]
theorem Wu:QP Tryz.prog 82 Tryz.f82.ntmps (Tryz.f82.body.getD .skip):=⟨Tryz.f82,Tryz.func82,rfl,rfl,rfl,acf⟩
theorem Ka {l:List dY}{F:List (List aY)}{z:Nat}{rec:Loop}(hF:vC F)
  (hY:∀i k,i<F.length→k<(F.getD i default).length→Lm Tryz.prog z rec [7] [vvw (iP (i,k)),vvw (iG (bf F (i,k)))] [.pbox 1000003 0] (GK l F (aR F i k)) (GK l F (aR F i (k+1)))) :
  zE Tryz.prog 82 z rec [.hid (yR z rec [7]) [.bx 1000003],.pbox 1000001 0] (GK l F (aR F 0 0)) (GK l F (aR F F.length 0)):=by
 refine lR Wu (ZZ J) fun w0 M0 aa hmd Lo hwl=>?_
 refine c6 [6,4] [0,10,11,12] [1000000,1000001,1000002,1000003] ?_
 refine lp (fun zm zs=>∃i:Nat,zm=F.length-i∧(i≤F.length)∧zs=⟨33,[(0,.hid (yR z rec [7]) [.bx 1000003]),(10,vvw (.sl (F.map bV))),(11,vvw (int F.length)),(12,vvw (int i))],[(1000000,.box 102 [vvw (.sl (l.map dm)),vvw (.sl (F.map bV)),.nst 1000002]),(1000001,.box 35 [.pbox 1000000 0]),(1000002,.nmp (jb F (aR F i 0)) (br 107 (mg F (aR F i 0))) none),(1000003,.box 35 [.pbox 1000000 0])]⟩) ?_ ?_
 exact⟨_,0,rfl,Z5 _,rfl⟩
 rintro zm zs ⟨i,rfl,aZ,rfl⟩
 have WN:=hF.n
 refine wS [3006] [0,10,11,12,13] [1000000,1000001,1000002,1000003] ?_ ?_<;>intro h1
 refine wA [8,8,4] [0,3,10,11,12,17,18,19] [1000000,1000001,1000002,1000003] ?_
 refine lp (fun zm zs=>∃k:Nat,zm=(F.getD i default).length-k∧(k≤(F.getD i default).length)∧zs=⟨33,[(0,.hid (yR z rec [7]) [.bx 1000003]),(3,vvw (int i)),(10,vvw (.sl (F.map bV))),(11,vvw (int F.length)),(12,vvw (int i)),(17,vvw (bV (F.getD i default))),(18,vvw (int (F.getD i default).length)),(19,vvw (int k))],[(1000000,.box 102 [vvw (.sl (l.map dm)),vvw (.sl (F.map bV)),.nst 1000002]),(1000001,.box 35 [.pbox 1000000 0]),(1000002,.nmp (jb F (aR F i k)) (br 107 (mg F (aR F i k))) none),(1000003,.box 35 [.pbox 1000000 0])]⟩) ?_ ?_
 exact⟨_,0,rfl,Z5 _,rfl⟩
 rintro zm zs ⟨k,rfl,fU,rfl⟩
 have hrow:=hF.row (F.getD i default) (ba ace)
 refine wS [3006] [0,3,10,11,12,17,18,19,20] [1000000,1000001,1000002,1000003] ?_ ?_<;>intro h2
 refine wA [8,7] [0,3,5,6,10,11,12,17,18,19] [6,1000000,1000001,1000002,1000003] ?_
 refine yG 5 hmd J ?_
 refine wZ [6] ?_
 refine⟨_,rH [] J J J J J J J (hY i k ace ace) Lo hwl ⟨.inl J,.inl J,trivial⟩ ⟨.inl J,trivial⟩ ⟨rfl,rfl,rfl,rfl,trivial⟩ J J J J aa,?_⟩
 refine wA [8,9002] [0,3,10,11,12,17,18,19] [1000000,1000001,1000002,1000003] ?_
 exact⟨_,⟨k+1,rfl,ace,rfl⟩,ace⟩
 refine wA [8,9002] [0,10,11,12] [1000000,1000001,1000002,1000003] ?_
 obtain rfl:k=(F.getD i default).length:=ace
 exact⟨_,⟨i+1,rfl,ace,by rw[←tC J];rfl⟩,ace⟩
 refine wZ [5] ?_
 refine ec (o1:=[(1000000,_),(1000001,_),(1000002,_),(1000003,_)]) ⟨rfl,rfl,rfl,rfl,trivial⟩ ?_
 first|(obtain rfl:i=F.length:=by omega);rfl
theorem EJ {g:aI}{x:dY}(hg:sk g)(hw:x.lemma_.length≤1099511627776):aX Tryz.prog 47 [df g,aj x.class_,ints x.lemma_] (.p (.tup [bV (fe g x.class_ x.lemma_),int (cV g x.class_ x.lemma_)])):=GI hg hw
theorem Yi:QS Tryz.prog 12 Tryz.f12.ntmps 4 5 6 (Tryz.f12.body.getD .skip):=⟨Tryz.f12,Tryz.func12,rfl,rfl,rfl,acf⟩
theorem EK {g:aI}{l:List dY}(hg:sk g)(hl:l.length≤1048576)(hL:∀x∈l,x.lemma_.length≤1048576):aX Tryz.prog 12 [df g,.sl (l.map dm)] (.p (.tup [NW g l,int (uL g l),int (ni g l)])):=by
 refine vL Yi (ZZ J) fun w0 M0 aa hmd=>?_
 refine rM [2,9,3003] [1,2,17] [] ?_ ?_<;>intro h1
 refine wZ [10] ?_
 refine gm J J J ?_;rotate_left
 refine wA [5] [1,2] [] ?_
 refine oS J (step_map J J J J J Tryz.underlying100 (fun q hq=>by cases hq<;>exact⟨_,_,rfl⟩) aa) J ?_
 refine wA [0] [1,2,18] [18] ?_
 refine oP J (Dd J UM UL J J J J J) ?_
 refine oS J (I5 J J J J J J J aa) J ?_
 refine wA [1] [1,2,7,20] [7,18,20] ?_
 refine oS J (eV J J J XD J J J J J (C5 J J) J aa) J ?_
 refine wA [4] [1,2,7] [7,18,20] ?_
 refine bL 20 0 41 72 102 aa J J J J ?_
 refine bL 20 1 42 46 102 aa J J J J ?_
 refine ao.imp (LJ 20 2 aa J J J J J J J) ?_
 refine gS [2,4] [2,7,21,22,23] [7,18,20,41,42] ?_
 refine lp (fun zm zs=>∃i:Nat,zm=l.length-i∧(i≤l.length)∧(∀j,j<i→decide (cV g (l.getD j default).class_ (l.getD j default).lemma_=0)=true)∧zs=⟨89,[(2,vvw (iF g)),(7,.pbox 7 0),(21,vvw (.sl (l.map dm))),(22,vvw (int l.length)),(23,vvw (int i))],[(7,.box 35 [.pbox 20 0]),(18,.nmp [] [] none),(20,.box 102 [.own 41,.own 42,.nst 18]),(41,.arr 72 ((l.take i).map dm)),(42,.arr 46 ((aT g (l.take i)).map bV))]⟩) ?_ ?_
 exact⟨_,0,rfl,Z5 _,fun j hj=>absurd hj ace,rfl⟩
 rintro zm zs ⟨i,rfl,aZ,au,rfl⟩
 refine wS [3006] [2,7,21,22,23,24] [7,18,20,41,42] ?_ ?_<;>intro h2
 refine wA [8,13] [2,7,8,9,21,22,23,29,31,33] [7,9,18,20,41,42] ?_
 refine oN J J J J J (EJ (x:=(l.getD i default)) hg (by have:=hL _ (ba (show i<l.length by omega));omega)) ?_
 refine wS [3014] [2,7,8,9,10,11,21,22,23,38] [7,9,18,20,41,42] ?_ ?_<;>intro h3
 refine wZ [17] ?_
 refine gm J J J ?_;rotate_left
 refine wA [4] [2,7,9,10,21,22,23] [7,9,18,20,41,42] ?_
 refine bw (n:=89) 1 (fun p=>[12].getD p 0) (fun p=>[[(7,.box 35 [.pbox 20 0]),(9,.box 72 [vvw (ints (l.getD i default).lemma_),vvw (aj (l.getD i default).class_)]),(18,.nmp [] [] none),(20,.box 102 [.own 41,.own 42,.nst 18]),(41,.arr 72 ((l.take i).map dm)),(42,.arr 46 ((aT g (l.take i)).map bV))],[(7,.box 35 [.pbox 20 0]),(9,.box 72 [vvw (ints (l.getD i default).lemma_),vvw (aj (l.getD i default).class_)]),(18,.nmp [] [] none),(20,.box 102 [.dead,.own 42,.nst 18]),(42,.arr 46 ((aT g (l.take i)).map bV)),(53,.arr 72 ((l.take i).map dm++[dm (l.getD i default)]))]].getD p []) 13 [(0,some [0,1]),(1,some [0]),(2,some [0]),(3,some [0]),(4,some [0]),(5,some [0]),(6,some [0]),(7,none),(8,some [0]),(9,some [0]),(10,none),(11,none)] [(41,.pbox 20 0),(42,.pbox 20 0),(43,.pbox 20 0),(44,.pbox 20 0),(45,.own 41),(46,.pbox 9 0),(47,vvw (ints (l.getD i default).lemma_)),(48,vvw (ints (l.getD i default).lemma_)),(49,.pbox 9 1),(50,vvw (aj (l.getD i default).class_)),(51,vvw (dm (l.getD i default))),(52,vvw (.sl [dm (l.getD i default)])),(53,.own 53),(2,vvw (iF g)),(7,.pbox 7 0),(9,.pbox 9 0),(10,vvw (bV (fe g (l.getD i default).class_ (l.getD i default).lemma_))),(21,vvw (.sl (l.map dm))),(22,vvw (int l.length)),(23,vvw (int i))] mixed acf acf acf acf acf ?_ (fun t d h=>h) J ?_ ?_ ?_
 ·rfl
 ·exact
   ai (ai ((ae J y4 J J J)) (ai ((ae J y4 J J J)) (trivial))) (
   ai (ai ((ae J y4 J J J)) (trivial)) (
   ai (ai ((gX J J J)) (trivial)) (
   ai (ai ((aK J PV J J)) (trivial)) (
   ai (ai ((ae J XC J J J)) (trivial)) (
   ai (ai ((aK J Tb J J)) (trivial)) (
   ai (ai ((ae J F5 J J J)) (trivial)) (
   ai (fun _=>(bC J J J ((aq.weaken (fb (l:=(l.getD i default).lemma_) (by have:=hL _ (ba (show i<l.length by omega));omega)))) aa)) (
   ai (ai ((aK J Tc J J)) (trivial)) (
   ai (ai ((ae J Uy J J J)) (trivial)) (
   ai (fun _=>(aF J Ta Nh J J J)) (
   ai (fun _=>(bY J Tryz.underlying30 PQ J J J J aa)) (
   trivial))))))))))))
 ·exact ai (fun X fl dO dh=>db (T:=30) (t:=53) (u:=45) (id:=41) (y:=.tmp 52) rfl rfl rfl fl Tryz.underlying30 PQ ((dh 45 acg).trans rfl) rfl (cZ (jR ((dh 52 acg).trans rfl)) (cw (by rfl))) (by rw[Z0,aaa];simp only[Z2,Z9];omega) (by rw[Z0,aaa];simp only[Z2,Z9];omega) rfl dO rfl rfl rfl aa) (trivial)
 refine bO (n:=3) acf ?_
 refine xe 13 ?_
 refine xe 14 ?_
 refine aH (i:=15) acf J J (aU J J J XB J J J J J aa) ?_
 refine bg acf ?_
 refine jl [1] [2,7,10,21,22,23] [7,18,20,42,53] ?_
 refine bw (n:=89) 1 (fun p=>[7].getD p 0) (fun p=>[[(7,.box 35 [.pbox 20 0]),(18,.nmp [] [] none),(20,.box 102 [.own 53,.own 42,.nst 18]),(42,.arr 46 ((aT g (l.take i)).map bV)),(53,.arr 72 ((l.take i).map dm++[dm (l.getD i default)]))],[(7,.box 35 [.pbox 20 0]),(18,.nmp [] [] none),(20,.box 102 [.own 53,.dead,.nst 18]),(53,.arr 72 ((l.take i).map dm++[dm (l.getD i default)])),(63,.arr 46 ((aT g (l.take i)).map bV++[bV (fe g (l.getD i default).class_ (l.getD i default).lemma_)]))]].getD p []) 8 [(0,some [0,1]),(1,some [0]),(2,some [0]),(3,some [0]),(4,some [0]),(5,none),(6,none)] [(56,.pbox 20 0),(57,.pbox 20 0),(58,.pbox 20 0),(59,.pbox 20 1),(60,.own 42),(61,vvw (bV (fe g (l.getD i default).class_ (l.getD i default).lemma_))),(62,vvw (.sl [bV (fe g (l.getD i default).class_ (l.getD i default).lemma_)])),(63,.own 63),(2,vvw (iF g)),(7,.pbox 7 0),(10,vvw (bV (fe g (l.getD i default).class_ (l.getD i default).lemma_))),(21,vvw (.sl (l.map dm))),(22,vvw (int l.length)),(23,vvw (int i))] mixed acf acf acf acf acf ?_ (fun t d h=>h) J ?_ ?_ ?_
 ·rfl
 ·exact
   ai (ai ((ae J y4 J J J)) (ai ((ae J y4 J J J)) (trivial))) (
   ai (ai ((ae J y4 J J J)) (trivial)) (
   ai (ai ((gX J J J)) (trivial)) (
   ai (ai ((aK J BU J J)) (trivial)) (
   ai (ai ((ae J S8 J J J)) (trivial)) (
   ai (fun _=>(af J J)) (
   ai (fun _=>(bY J Tryz.underlying39 S9 J J J J aa)) (
   trivial)))))))
 ·exact ai (fun X fl dO dh=>db (T:=39) (t:=63) (u:=60) (id:=42) (y:=.tmp 62) rfl rfl rfl fl Tryz.underlying39 S9 ((dh 60 acg).trans rfl) rfl (cZ (jR ((dh 62 acg).trans rfl)) (cw (by rfl))) (by rw[Z0,nR,aaa];simp only[Z2,Z9];omega) (by rw[Z0,nR,aaa];simp only[Z2,Z9];omega) rfl dO rfl rfl rfl aa) (trivial)
 refine bO (n:=3) acf ?_
 refine xe 8 ?_
 refine xe 9 ?_
 refine aH (i:=10) acf J J (aU J J J XE J J J J J aa) ?_
 refine bg acf ?_
 refine jl [2] [2,7,21,22,23] [7,18,20,53,63] ?_
 refine ao.imp (jG 20 0 41 aa J J J J J J J J J) ?_
 refine ao.imp (jG 20 1 42 aa J J J J J J J J J) ?_
 refine gS [1,9002] [2,7,21,22,23] [7,18,20,41,42] ?_
 exact⟨_,⟨i+1,rfl,ace,gD au (decide_eq_true ace),by rw[yy ace,take_succ ace,Z8,Z8];rfl⟩,ace⟩
 refine wA [8] [7] [7,18,20,41,42] ?_
 refine ao.imp (hJ 20 0 aa J J J J) ?_
 refine ao.imp (hJ 20 1 aa J J J J) ?_
 obtain rfl:i=l.length:=ace
 rw[aa1]
 have WO:=yx (g:=g) (l:=l) hg ace
 refine gS [2] [7,67] [7,18,20] ?_
 refine oS J (Fs J J J J J J J J J (C5 J J) (Ws) aa) J ?_
 refine wA [3] [7,68] [7,18,20,68] ?_
 refine WZ [(1000000,20),(1000001,68),(1000002,18),(1000003,7)] (GK l (aT g l) (aR (aT g l) 0 0)) (GK l (aT g l) (aR (aT g l) (aT g l).length 0)) [7] [.bx 1000003] hmd aa (fun zl zr q1 q2 q3 q4 q5 q6=>Ka (l:=l) (F:=aT g l) WO (fun i k hi hk=>Be (n:=89) (p:=69) (q:=70) (ts:=[7]) q1 q2 q3 q4 q5 q6 J (fun w0 M0 aa hmd0=>?_))) J J J ⟨.inl J,trivial⟩ ⟨.inl J,trivial⟩ ⟨rfl,rfl,rfl,rfl,trivial⟩ J J J J J ?_
 refine zM [10] ?_
 intro w0 M0 aa hmd0
 refine c6 [5] [7,12,72] [12,1000000,1000001,1000002,1000003] ?_
 refine oC J J J J (uJ (w:=(bf (aT g l) (i,k)).ah) (by have:=(WO.at hi hk).ah;omega)) ?_
 refine wA [3] [7,12,14] [12,1000000,1000001,1000002,1000003] ?_
 refine bw (n:=89) 3 (fun p=>[10,13,14].getD p 0) (fun p=>[[(12,.box 107 [vvw (int i),vvw (int k)]),(1000000,.box 102 [vvw (.sl (l.map dm)),vvw (.sl ((aT g l).map bV)),.nst 1000002]),(1000001,.box 35 [.pbox 1000000 0]),(1000002,.nmp (jb (aT g l) (aR (aT g l) i k)) (br 107 (mg (aT g l) (aR (aT g l) i k))) none),(1000003,.box 35 [.pbox 1000000 0])],[(12,.box 107 [vvw (int i),vvw (int k)]),(84,.arr 107 (ko (jb (aT g l) (aR (aT g l) i k)) (mg (aT g l) (aR (aT g l) i k)) (iu (aT g l) (i,k)))),(1000000,.box 102 [vvw (.sl (l.map dm)),vvw (.sl ((aT g l).map bV)),.nst 1000002]),(1000001,.box 35 [.pbox 1000000 0]),(1000002,.nmp (jb (aT g l) (aR (aT g l) i k)) (br 107 (mg (aT g l) (aR (aT g l) i k))) (vK (jb (aT g l) (aR (aT g l) i k)) (iu (aT g l) (i,k)) (.arr 84))),(1000003,.box 35 [.pbox 1000000 0])],[(12,.box 107 [vvw (int i),vvw (int k)]),(87,.arr 107 ((ko (jb (aT g l) (aR (aT g l) i k)) (mg (aT g l) (aR (aT g l) i k)) (iu (aT g l) (i,k)))++[(iP (i,k))])),(1000000,.box 102 [vvw (.sl (l.map dm)),vvw (.sl ((aT g l).map bV)),.nst 1000002]),(1000001,.box 35 [.pbox 1000000 0]),(1000002,.nmp (jb (aT g l) (aR (aT g l) i k)) (br 107 (mg (aT g l) (aR (aT g l) i k))) (vK (jb (aT g l) (aR (aT g l) i k)) (iu (aT g l) (i,k)) .no)),(1000003,.box 35 [.pbox 1000000 0])],[(12,.box 107 [vvw (int i),vvw (int k)]),(1000000,.box 102 [vvw (.sl (l.map dm)),vvw (.sl ((aT g l).map bV)),.nst 1000002]),(1000001,.box 35 [.pbox 1000000 0]),(1000002,.nmp (fL (jb (aT g l) (aR (aT g l) i k)) (iu (aT g l) (i,k))) (br 107 (sR (jb (aT g l) (aR (aT g l) i k)) (mg (aT g l) (aR (aT g l) i k)) (iu (aT g l) (i,k)) ((ko (jb (aT g l) (aR (aT g l) i k)) (mg (aT g l) (aR (aT g l) i k)) (iu (aT g l) (i,k)))++[(iP (i,k))]))) none),(1000003,.box 35 [.pbox 1000000 0])]].getD p []) 15 [(0,some [0,1,2]),(1,some [0,1,2]),(2,some [0,1,2]),(3,some [0,1,2]),(4,none),(5,some [0]),(6,some [0]),(7,some [0]),(8,some [0]),(9,none),(11,some [0,1]),(12,none)] [(74,.pbox 1000000 0),(75,.pbox 1000000 0),(76,.pbox 1000000 2),(77,.nst 1000002),(78,vvw (aj (qb (bf (aT g l) (i,k)).ah))),(79,.pbox 1000000 0),(80,.pbox 1000000 0),(81,.pbox 1000000 2),(82,.nst 1000002),(83,vvw (aj (qb (bf (aT g l) (i,k)).ah))),(84,.own 84),(85,vvw (iP (i,k))),(86,vvw (.sl [(iP (i,k))])),(87,.own 87),(7,.pbox 1000003 0),(12,.pbox 12 0),(14,vvw (aj (qb (bf (aT g l) (i,k)).ah)))] mixed acf acf acf acf acf ?_ (fun t d h=>h) J ?_ ?_ ?_
 ·rfl
 ·exact
   ai (ai ((ae J y4 J J J)) (ai ((ae J y4 J J J)) (ai ((ae J y4 J J J)) (trivial)))) (
   ai (ai ((gX J J J)) (ai ((gX J J J)) (ai ((gX J J J)) (trivial)))) (
   ai (ai ((aK J wk J J)) (ai ((aK J wk J J)) (ai ((aK J wk J J)) (trivial)))) (
   ai (ai ((ae J HK J J J)) (ai ((ae J HK J J J)) (ai ((ae J HK J J J)) (trivial)))) (
   ai (fun _=>(af J J)) (
   ai (ai ((ae J y4 J J J)) (trivial)) (
   ai (ai ((gX J J J)) (trivial)) (
   ai (ai ((aK J wk J J)) (trivial)) (
   ai (ai ((ae J HK J J J)) (trivial)) (
   ai (fun _=>(af J J)) (
   ai (ai ((eU J Rr Rq J J J J)) (ai ((eU J Rr Rq J J J J)) (trivial))) (
   ai (fun _=>(bY J Tryz.underlying109 Rs J J J J aa)) (
   trivial))))))))))))
 ·exact ai (fun X fl dO dh=>have Yj:X.lookup 83=some (vvw (aj (qb (bf (aT g l) (i,k)).ah))):=(dh 83 acg).trans rfl;Db (t:=84) (x:=.tmp 82) (y:=.tmp 83) (key:=(iu (aT g l) (i,k))) rfl rfl rfl rfl fl Tryz.underlying100 Tryz.underlying9 Nk ((dh 82 acg).trans rfl) rfl (by simp only[bj,St.ev,Yj];rfl) trivial (tD (aT g l) (aR (aT g l) i k)) dO rfl rfl rfl aa) (ai (fun X fl dO dh=>db (T:=109) (t:=87) (u:=84) (id:=84) (y:=.tmp 86) rfl rfl rfl fl Tryz.underlying109 Rs ((dh 84 acg).trans rfl) rfl (cZ (jR ((dh 86 acg).trans rfl)) (cw (by rfl))) (by have:=NZ (F:=aT g l) (i:=i) (k:=k) (key:=iu (aT g l) (i,k)) WO hi hk;simp only[Z2,Z9];omega) (by have:=NZ (F:=aT g l) (i:=i) (k:=k) (key:=iu (aT g l) (i,k)) WO hi hk;simp only[Z2,Z9];omega) rfl dO rfl (Eq.trans (b:=[(12,.box 107 [vvw (int i),vvw (int k)]),(87,.arr 107 ((ko (jb (aT g l) (aR (aT g l) i k)) (mg (aT g l) (aR (aT g l) i k)) (iu (aT g l) (i,k)))++[(iP (i,k))])),(1000000,.box 102 [vvw (.sl (l.map dm)),vvw (.sl ((aT g l).map bV)),.nst 1000002]),(1000001,.box 35 [.pbox 1000000 0]),(1000002,.nmp (jb (aT g l) (aR (aT g l) i k)) (br 107 (mg (aT g l) (aR (aT g l) i k))) (sy (fun d=>d.stays true 87&&d.stays true 84) (sy (SV.stays true 84) (vK (jb (aT g l) (aR (aT g l) i k)) (iu (aT g l) (i,k)) (.arr 84))))),(1000003,.box 35 [.pbox 1000000 0])]) rfl (by rw[zL,zL];rfl)) rfl aa) (ai (fun X fl dO dh=>have Yk:X.lookup 78=some (vvw (aj (qb (bf (aT g l) (i,k)).ah))):=(dh 78 acg).trans rfl;Fz (x:=.tmp 77) (y:=.tmp 78) (z:=.tmp 87) (key:=(iu (aT g l) (i,k))) rfl rfl fl Tryz.underlying100 Tryz.underlying9 ((dh 77 acg).trans rfl) rfl (by simp only[bj,St.ev,Yk];rfl) ((dh 87 acg).trans rfl) rfl trivial (tD (aT g l) (aR (aT g l) i k)) dO rfl rfl aa) (trivial)))
 refine bO (n:=0) acf ?_
 refine bg acf ?_
 refine Cx [1] ?_
 refine cR (o1:=[(1000000,_),(1000001,_),(1000002,_),(1000003,_)]) ⟨rfl,rfl,rfl,rfl,trivial⟩ ?_
 focus (unfold GK;rw[nP,qI,uK];first|done|rfl)
 refine wA [3] [7] [7,18,20] ?_
 refine ao.imp (FB 20 2 aa J J J J J J J) ?_
 refine gS [3] [4] [18,20] ?_
 refine kj 89 [(4,_)] [] aa J ⟨.inr ⟨_,_,rfl,rfl,rfl⟩,trivial⟩ trivial ?_
 refine FC [5] ?_
 refine gm J J J ?_;rotate_left
 all_goals
  first
   | (rw[Ik (nQ ace).2 acg,(nQ (g:=g) (l:=l) ace).1,(nQ (g:=g) (l:=l) ace).2];exact⟨rfl,rfl,rfl⟩)
   | (have hh:=Ii (g:=g) (l:=l) (i:=i) ace ace au ach;rw[Ik hh.2 ach,hh.1,hh.2];exact⟨rfl,rfl,rfl⟩)
   | (have hh:=Ij (g:=g) (l:=l) (i:=l.length) ace ace au;rw[NX hh.2,hh.1,hh.2,OZ];exact⟨by unfold tK WM;rw[nR];rfl,rfl,rfl⟩)
end Go.Proofs.YtlapahnodhmcpaaGreat
namespace Go.Wf
open Go.Am Go.Wb Go.Wc
structure mh where
 lexeme:Int
 form:aY
 deriving Inhabited,DecidableEq
def Yl (a:mh):List AV:=int a.lexeme :: D5 a.form
def o7 (a:mh):AV:=.agg (Yl a)
theorem mV {F:List (List aY)}(hF:vC F){i k:Nat}(hi:i≤F.length)(hk:k≤1000):(aR F i k).length≤1001000:=by
 have h2:=GJ (f:=fun a=>(F.getD a default).length) (B:=1000) i fun a ha=>hF.row _ (ba ace)
 have h4:=hF.n
 rw[EI]
 have:i*1000≤1000*1000:=aa2 _ ace
 omega
def kZ (F:List (List aY))(w:List Int)(i k:Nat):List mh:=((aR F i k).filter fun p=>decide ((bf F p).ah=w)).map fun p=>⟨(p.1:Nat),bf F p⟩
def jx (F:List (List aY))(w:List Int):List mh:=kZ F w F.length 0
variable {F:List (List aY)}{w:List Int}{i k:Nat}
theorem Qs (h:(bf F (i,k)).ah=w):kZ F w i (k+1)=kZ F w i k++[⟨(i:Nat),bf F (i,k)⟩]:=by
 unfold kZ;rw[nP,aaW,Z8,aaN,if_pos (decide_eq_true h),abp];rfl
theorem TC (h:¬(bf F (i,k)).ah=w):kZ F w i (k+1)=kZ F w i k:=by
 unfold kZ;rw[nP,aaW,Z8,aaN,if_neg (by simpa using h),abp,aa9,aav]
theorem Qt (h:k=(F.getD i default).length):kZ F w i k=kZ F w (i+1) 0:=by unfold kZ;rw[tC h]
theorem Co (F:List (List aY))(w:List Int)(i k:Nat):(kZ F w i k).length≤(aR F i k).length:=by unfold kZ;rw[Z0];exact aba _ _
def y9 (l:List mh)(c:Nat)(k:Nat):Bool:=(l.take k).all fun a=>qT a.form.cuts c
def kv (l:List mh)(n:Nat):List Int:=((List.range n).filter fun c=>y9 l c l.length).map fun c:Nat=>(c:Int)
def tE (F:List (List aY))(w:List Int):List Int:=if(jx F w).length=0 then[] else kv (jx F w) (w.length+1)
theorem Kb {l:List mh}{c k:Nat}(h:k<l.length):y9 l c (k+1)=(y9 l c k&&qT (l.getD k default).form.cuts c):=by unfold y9;rw[all_succ h]
theorem GL {l:List mh}{n:Nat}(h:y9 l n l.length=true):kv l (n+1)=kv l n++[(n:Int)]:=by
 unfold kv;rw[aaP,aaW,Z8,aaN,if_pos h,abp];rfl
theorem Kc {l:List mh}{n:Nat}(h:y9 l n l.length=false):kv l (n+1)=kv l n:=by
 unfold kv;rw[aaP,aaW,Z8,aaN,if_neg (by rw[h];decide),abp,aa9,aav]
theorem yz (l:List mh)(n:Nat):(kv l n).length≤n:=by
 unfold kv;rw[Z0]
 exact aau (aba _ _) (by rw[aai];exact Z1 _)
def kf (F:List (List aY))(i k:Nat):List (List Int):=(aR F i k).foldl (fun o p=>lf o (bf F p).ah) []
def Cp (F:List (List aY)):List (List Int):=kf F F.length 0
theorem N0 (F:List (List aY))(i k:Nat):kf F i (k+1)=lf (kf F i k) (bf F (i,k)).ah:=by unfold kf;rw[nP,abf];rfl
theorem Qu (h:k=(F.getD i default).length):kf F i k=kf F (i+1) 0:=by unfold kf;rw[tC h]
theorem Il:∀ (l:List (List Int))(x:List Int),(lf l x).length≤l.length+1
 | [],x=>Z1 _
 | y :: l, x => by
   have:=Il l x
   unfold lf
   split
   · simp only[Z2];omega
   · split
     · omega
     · simp only[Z2];omega
theorem wx:∀ {l:List (List Int)}{x z:List Int},z∈lf l x→z∈l∨z=x
 | [],x,z,h=>.inr (aag.1 h)
 | y :: l, x, z, h => by
   unfold lf at h
   split at h
   · rcases aah.1 h with h | h
     · exact .inl (by rw[h];exact Z7)
     · exact(wx h).imp (aac _) id
   · split at h
     · exact .inl h
     · rcases aah.1 h with h | h
       · exact .inr h
       · exact .inl h
theorem TD (F:List (List aY))(i k:Nat):(kf F i k).length≤(aR F i k).length:=by
 unfold kf
 refine ic (C:=fun l=>(l.foldl (fun o p=>lf o (bf F p).ah) []).length≤l.length) (Z1 _) (fun l p ih=>?_) _
 rw[abf,aab]
 have:=Il (l.foldl (fun o p=>lf o (bf F p).ah) []) (bf F p).ah
 show(lf _ _).length≤_+1
 omega
theorem eQ (hF:vC F)(p:Nat×Nat):J5 (bf F p):=by
 unfold bf
 rcases aaq p.1 F.length with h|h
 ·rcases aaq p.2 (F.getD p.1 default).length with h2|h2
  ·exact hF.form _ (ba h) _ (ba h2)
  ·rw[ZY (l:=F.getD p.1 default),aaz h2];exact yw
 ·rw[ZY (l:=F),aaz h]
  show J5 (([]:List aY).getD p.2 default)
  exact yw
theorem N1 (hF:vC F)(i k:Nat):∀z∈kf F i k,z.length≤1048576:=by
 unfold kf
 refine ic (C:=fun l=>∀z∈l.foldl (fun o p=>lf o (bf F p).ah) [],z.length≤1048576) (fun z hz=>by cases hz) (fun l p ih=>?_) _
 rw[abf]
 intro z hz
 rcases wx (show z∈lf _ _ from hz) with h|rfl
 ·exact ih z h
 ·exact(eQ hF p).ah
def RW:uG:=⟨⟨[],[],[],[]⟩,[],[]⟩
def TE (g:aI)(l:List dY):uG:=if ni g l=0 then⟨g,l,aT g l⟩ else RW
theorem N2 {g:aI}{l:List dY}{e:Int}(h:ni g l=e)(h0:e≠0):TE g l=RW:=if_neg (by rw[h];exact h0)
theorem Im {g:aI}{l:List dY}(h:ni g l=0):TE g l=⟨g,l,aT g l⟩:=if_pos h
theorem Qv {a b:mh}(h:a.lexeme=b.lexeme)(h2:a.form=b.form):a=b:=by
 obtain⟨x,f⟩:=a
 obtain⟨y,g⟩:=b
 exact congr (congrArg mh.mk h) h2
section
variable {α:Type} [DecidableEq α] [Inhabited α]{a b:List α}
theorem Qw (h:a.length≠b.length):decide (a=b)=false:=decide_eq_false fun he=>h (by rw[he])
theorem N3 {k:Nat}(h:¬a.getD k default=b.getD k default):decide (a=b)=false:=decide_eq_false fun he=>h (by rw[he])
theorem Qx {k:Nat}(hl:a.length=b.length)(hk:a.length≤k)(h:∀j,j<k→decide (a.getD j default=b.getD j default)=true):decide (a=b)=true:=decide_eq_true (by
 refine List.ext_getElem hl fun j h1 h2=>?_
 have:=of_decide_eq_true (h j ace)
 rwa [dT h1,dT h2] at this)
end
end Go.Wf
