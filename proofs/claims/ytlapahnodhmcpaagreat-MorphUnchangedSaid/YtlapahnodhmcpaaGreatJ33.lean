/-
  Part of the proof.
-/
import Derived.Test.YtlapahnodhmcpaaGreatJ0
import Derived.Test.YtlapahnodhmcpaaGreatJ32
import Derived.Test.YtlapahnodhmcpaaGreatJ16
import Derived.Test.YtlapahnodhmcpaaGreatJ22
import Derived.Test.YtlapahnodhmcpaaGreatJ12
set_option linter.unusedVariables false
set_option linter.unusedSectionVars false
set_option linter.unusedSimpArgs false
set_option maxRecDepth 100000
set_option maxHeartbeats 40000000
namespace Go.Wf
open Go.Am Go.Wb Go.Wc Go.RowKit Go.MapKept
def aO (f:List (List aK))(i k:Nat):List (Nat×Nat):=(List.range i).flatMap (fun a=>(List.range (f.getD a default).length).map fun b=>(a,b))++(List.range k).map fun b=>(i,b)
theorem u6 (f:List (List aK))(i k:Nat):aO f i (k+1)=aO f i k++[(i,k)]:=by unfold aO;rw[aa8,aas,aaY];rfl
variable{i k:Nat}
theorem y8 {f:List (List aK)}(h:k=(f.getD i default).length):aO f i k=aO f (i+1) 0:=by subst h;unfold aO;rw[aa8 (n:=i),ab6];simp
def a8 (f:List (List aK))(p:Nat×Nat):aK:=(f.getD p.1 default).getD p.2 default
def jz (p:Nat×Nat):AV:=.agg [int p.1,int p.2]
def KS (s:List UInt8):Value:=.string ⟨s.toArray⟩
def iA (f:List (List aK))(p:Nat×Nat):Value:=KS (qz (a8 f p).af)
noncomputable def mapStep (f:List (List aK))(s:List Value×List (List AV))(p:Nat×Nat):List Value×List (List AV):=(Go.Am.fY s.1 (iA f p),th s.1 s.2 (iA f p) (kA s.1 s.2 (iA f p)++[jz p]))
noncomputable def OB (f:List (List aK))(l:List (Nat×Nat)):List Value×List (List AV):=l.foldl (mapStep f) ([],[])
noncomputable def je (f:List (List aK))(l:List (Nat×Nat)):List Value:=(OB f l).1
noncomputable def mD (f:List (List aK))(l:List (Nat×Nat)):List (List AV):=(OB f l).2
theorem Bv (f:List (List aK))(l:List (Nat×Nat))(p:Nat×Nat):OB f (l++[p])=mapStep f (OB f l) p:=by unfold OB;rw[abB];rfl
theorem rj (f:List (List aK))(l:List (Nat×Nat))(p:Nat×Nat):je f (l++[p])=Go.Am.fY (je f l) (iA f p):=by unfold je;rw[Bv];rfl
theorem u7 (f:List (List aK))(l:List (Nat×Nat))(p:Nat×Nat):mD f (l++[p])=th (je f l) (mD f l) (iA f p) (kA (je f l) (mD f l) (iA f p)++[jz p]):=by unfold mD je;rw[Bv];rfl
theorem iq {α:Type}{C:List α→Prop}(h0:C [])(hs:∀l x,C l→C (l++[x])):∀l,C l:=by
 have key:∀(n:Nat)(l:List α),l.length=n→C l:=by
   intro n
   induction n with
   | zero=>intro l h;rw[aaD h];exact h0
   | succ n ih =>
     intro l h;have hne:l≠[]:=fun q=>by rw[q] at h;cases h
     have e:=List.dropLast_concat_getLast hne;rw[←e];exact hs _ _ (ih _ (by rw[List.length_dropLast];omega))
 exact fun l=>key _ l J
theorem OC {ks:List Value}{k u:Value}(h:u∈Go.Am.fY ks k):u∈ks∨u=k:=by
 unfold Go.Am.fY at h;split at h
 ·exact .inl h
 ·rcases aaU.1 h with h|h
  ·exact .inl h
  ·exact .inr (aay.1 h)
theorem tW (f:List (List aK))(l:List (Nat×Nat)):∀u∈je f l,IsKey .string u:=by
 refine iq (C:=fun l=>∀u∈je f l,IsKey .string u) (fun u hu=>by cases hu) (fun l p ih u hu=>?_) l;rw[rj] at hu;rcases OC hu with h|rfl
 ·exact ih u h
 ·trivial
theorem mQ (f:List (List aK))(l:List (Nat×Nat)):(je f l).length=(mD f l).length:=by
 refine iq (C:=fun l=>(je f l).length=(mD f l).length) J (fun l p ih=>?_) l;rw[rj,u7];unfold Go.Am.fY th;cases dK (je f l) (iA f p) with
 | none=>simp[ih]
 | some i=>simp[ih]
open Classical in
theorem OD {ks:List Value} {rows:List (List AV)} {k key:Value} {xs:List AV} (hl:ks.length=rows.length):kA (Go.Am.fY ks k) (th ks rows k xs) key=if key=k then xs else kA ks rows key:=by
 unfold Go.Am.fY th;cases hp:dK ks k with
 | some i =>
   have hi:i<rows.length:=by rw[←hl];exact(aaz.1 (eP hp)).1
   by_cases h:key=k
   · subst h
     rw[if_pos rfl];unfold kA;rw[hp];show(rows.set i xs).getD i []=xs;rw[aag,abI hi];rfl
   · rw [if_neg h]
     unfold kA;cases hk:dK ks key with
     | none=>rfl
     | some j =>
       have hne:i≠j:=fun q=>by
         subst q;have h1:=eP hp;have h2:=eP hk;rw[h1] at h2;exact h (by injection h2 with h2;exact h2.symm)
       show(rows.set i xs).getD j []=rows.getD j [];rw[aag,abL hne,aag]
 | none =>
   have happ:∀key,key≠k→dK (ks++[k]) key=dK ks key:=fun key h=>by
     have:∀l:List Value,dK (l++[k]) key=dK l key:=by
       intro l
       induction l with
       | nil =>
         show dK [k] key=none;unfold dK;rw[if_neg (fun q=>h q.symm)];rfl
       | cons x l ih =>
         rw[abN];unfold dK;rw[ih]
     exact this ks
   have hkk:dK (ks++[k]) k=some ks.length:=by
     have:∀l:List Value,dK l k=none→dK (l++[k]) k=some l.length:=by
       intro l
       induction l with
       | nil=>intro _;show dK [k] k=some 0;unfold dK;rw[if_pos rfl]
       | cons x l ih =>
         intro hn;unfold dK at hn;rw[abN];unfold dK;by_cases q:x=k
         · rw[if_pos q] at hn;cases hn
         · rw [if_neg q] at hn ⊢
           rw[Option.map_eq_none_iff] at hn;rw[ih hn];rfl
     exact this ks hp
   by_cases h:key=k
   · subst h
     rw[if_pos rfl];unfold kA;rw[hkk];show(rows++[xs]).getD ks.length []=xs;rw[hl,aag,aaE (aak _),ach];rfl
   · rw [if_neg h]
     unfold kA;rw[happ key h];cases hk:dK ks key with
     | none=>rfl
     | some j =>
       have hj:j<rows.length:=by rw[←hl];exact(aaz.1 (eP hk)).1
       show(rows++[xs]).getD j []=rows.getD j [];rw[aag,aaH hj,aag]
noncomputable def atKey (f:List (List aK))(l:List (Nat×Nat))(key:Value):List (Nat×Nat):=by classical exact l.filter fun p=>decide (iA f p=key)
theorem y9 (f:List (List aK))(l:List (Nat×Nat))(key:Value):kA (je f l) (mD f l) key=(atKey f l key).map jz:=by
 classical
 refine iq (C:=fun l=>kA (je f l) (mD f l) key=(atKey f l key).map jz) J (fun l p ih=>?_) l;rw[rj,u7,OD (mQ f l)];unfold atKey;rw[abq,aas];by_cases h:key=iA f p
 ·subst h;rw[if_pos rfl,ih];unfold atKey
  congr 1
  rw[abb,if_pos (decide_eq_true rfl),abV];rfl
 ·rw[if_neg h,ih];unfold atKey;rw[abb,if_neg (by simpa using fun q=>h q.symm),abV,abu,aaP]
theorem OE {ks:List Value}{rows:List (List AV)}(hl:ks.length=rows.length)(key:Value):(s5 (.sc (.slice none 0 0)) ks (rows.map AV.sl) key).norm=.sl (kA ks rows key):=by
 unfold s5 kA;cases hk:dK ks key with
 | none=>rfl
 | some j =>
   have hj:j<rows.length:=by rw[←hl];exact(aaz.1 (eP hk)).1
   show((rows.map AV.sl).getD j _).norm=AV.sl (rows.getD j []);rw[aag,aap,aal hj,aag,aal hj];rfl
noncomputable def XE (l:List cy)(f:List (List aK)):List AV:=[.sl (l.map cS),.sl (f.map bU),.mp (je f (aO f f.length 0)) ((mD f (aO f f.length 0)).map AV.sl)]
noncomputable def pD (l:List cy)(f:List (List aK)):AV:=.pc (XE l f) 0
def aH (g:aC)(l:List cy):List (List aK):=l.map fun x=>fl g x.class_ x.lemma_
def CZ (g:aC):List cy→Nat×Int
 | []=>(0,0)
 | x :: l=>if cW g x.class_ x.lemma_≠0 then(0,cW g x.class_ x.lemma_) else if(CZ g l).2=0 then(0,0) else((CZ g l).1+1,(CZ g l).2)
def qA (g:aC)(l:List cy):Int:=if 64<l.length then 0 else((CZ g l).1:Nat)
def eE (g:aC)(l:List cy):Int:=if 64<l.length then 4 else(CZ g l).2
variable {g:aC}
theorem I2:∀ {l:List cy}{i:Nat},i<l.length→(∀j,j<i→decide (cW g (l.getD j default).class_ (l.getD j default).lemma_=0)=true)→cW g (l.getD i default).class_ (l.getD i default).lemma_≠0→CZ g l=(i,cW g (l.getD i default).class_ (l.getD i default).lemma_)
 | [],i,h,_,_=>absurd h (acE i)
 | c :: l,0,_,_,hn=>if_pos hn
 | c :: l, i + 1, h, hz, hn => by
   have h0:cW g c.class_ c.lemma_=0:=of_decide_eq_true (hz 0 acK);have ih:=I2 (l:=l) (i:=i) (by simpa using h) (fun j hj=>hz (j+1) acK) hn;unfold CZ;have hn':cW g (l.getD i default).class_ (l.getD i default).lemma_≠0:=hn;rw[if_neg (fun q=>q h0),ih,if_neg hn'];rfl
theorem C0:∀ {l:List cy},(∀j,j<l.length→decide (cW g (l.getD j default).class_ (l.getD j default).lemma_=0)=true)→CZ g l=(0,0)
 | [],_=>rfl
 | c :: l, h => by
   have h0:cW g c.class_ c.lemma_=0:=of_decide_eq_true (h 0 (by simp));unfold CZ;rw[if_neg (fun q=>q h0),C0 (l:=l) fun j hj=>h (j+1) (by simpa using hj),if_pos rfl]
variable{l:List cy}
theorem mE (h:64<l.length):qA g l=0∧eE g l=4:=⟨if_pos h,if_pos h⟩
theorem I3 (h0:¬64<l.length)(h:i<l.length)(hz:∀j,j<i→decide (cW g (l.getD j default).class_ (l.getD j default).lemma_=0)=true)(hn:cW g (l.getD i default).class_ (l.getD i default).lemma_≠0) :
  qA g l=i∧eE g l=cW g (l.getD i default).class_ (l.getD i default).lemma_:=by
 have e:=I2 h hz hn;exact⟨by unfold qA;rw[if_neg h0,e],by unfold eE;rw[if_neg h0,e]⟩
theorem I4 (h0:¬64<l.length)(hi:l.length≤i)(hz:∀j,j<i→decide (cW g (l.getD j default).class_ (l.getD j default).lemma_=0)=true):qA g l=0∧eE g l=0:=by
 have e:=C0 (g:=g) (l:=l) fun j hj=>hz j acK
 exact⟨by unfold qA;rw[if_neg h0,e];rfl,by unfold eE;rw[if_neg h0,e]⟩
noncomputable def C1 (g:aC)(l:List cy):AV:=if eE g l=0 then pD l (aH g l) else .sc (.pointer none)
theorem w7 {e:Int}(h:eE g l=e)(h0:e≠0):C1 g l=.sc (.pointer none):=if_neg (by rw[h];exact h0)
theorem qB (h:eE g l=0):C1 g l=pD l (aH g l):=if_pos h
structure sF (f:List (List aK)):Prop where
 n:f.length≤1000
 row:∀r∈f,r.length≤1000
 form:∀r∈f,∀x∈r,zx x
theorem za:zx IY:=⟨by decide,by decide,by decide⟩
theorem OF {cl cn:List UInt8} {w:List Int} (hg:pF g):zx (gj g cl cn w):=by
 unfold gj;split
 · next h =>
   have h4 : (wK (u3 g cl cn w) (ot g)).length ≤ 64 := by
     unfold dw at h;split at h
     · next h1=>exact absurd h h1
     · split at h
       · cases h
       · split at h
         · cases h
         · split at h
           · cases h
           · next h3 =>
             split at h
             · cases h
             · next h4=>exact sD (by simpa using h4) acK
   have h5:=tN (wK (u3 g cl cn w) (ot g));have h6:=CO (wK (u3 g cl cn w) (ot g)) (wK (u3 g cl cn w) (ot g)).length;have h7:=o8 (jy g cl cn) (bT g cl w);have h8:=o8 (ot g) (u3 g cl cn w);have h9:(jy g cl cn).length≤1000:=aaO kQ (jx hg cl cn).change;have h10:(ot g).length≤1000:=aaO kQ hg.order;refine⟨by show(gX _).length≤_;omega,by show(KO _).length≤_;unfold KO;omega,?_⟩;show(_++_:List (List UInt8)).length≤_;rw[aar];omega
 · exact za
theorem Fx {cl:List UInt8}{w:List Int}(hg:pF g):(fl g cl w).length≤1000∧∀x∈fl g cl w,zx x:=by
 unfold fl;split
 ·refine⟨by rw[aai];exact(lq hg cl).cells,fun x hx=>?_⟩;obtain⟨c,_,rfl⟩:=aaG.1 hx;exact OF hg
 ·exact⟨aan _,fun x hx=>by cases hx⟩
theorem oe (hg:pF g)(hl:l.length≤1000):sF (aH g l):=by
 refine⟨by unfold aH;rw[aai];exact hl,fun r hr=>?_,fun r hr=>?_⟩
 ·obtain⟨x,_,rfl⟩:=aaG.1 hr;exact(Fx hg).1
 ·obtain⟨x,_,rfl⟩:=aaG.1 hr;exact(Fx hg).2
theorem sF.at {f:List (List aK)}(h:sF f)(hi:i<f.length)(hk:k<(f.getD i default).length):zx (a8 f (i,k)):=h.form _ (aM hi) _ (aM hk)
theorem zb (h:i<l.length):aH g (l.take (i+1))=aH g (l.take i)++[fl g (l.getD i default).class_ (l.getD i default).lemma_]:=by unfold aH;rw[take_succ h,aas];rfl
theorem l3 (l:List cy):(aH g l).length=l.length:=aai _
theorem Fy (f:List (List aK))(i k:Nat):(aO f i k).length=((List.range i).map fun a=>(f.getD a default).length).sum+k:=by
 unfold aO;rw[aar,aai,aaA,List.length_flatMap]
 congr 2
 exact acz fun a _=>by rw[aai,aaA]
theorem Hu {f:Nat→Nat}{B:Nat}:∀n,(∀a,a<n→f a≤B)→((List.range n).map f).sum≤n*B
 | 0,_=>by simp
 | n + 1, h => by
   rw[aa8,aas,List.sum_append,acw];have:=Hu n fun a ha=>h a acK
   have:=h n acK;simp only[aa6,abu,List.sum_cons,List.sum_nil];omega
theorem OG {F:List (List aK)}{key:Value}(hF:sF F)(hi:i<F.length)(hk:k<(F.getD i default).length):(kA (je F (aO F i k)) (mD F (aO F i k)) key).length≤1000*1000+1000:=by
 rw[y9,aai];have h1:(atKey F (aO F i k) key).length≤(aO F i k).length:=by unfold atKey;exact abx _ _
 have h2:=Hu (f:=fun a=>(F.getD a default).length) (B:=1000) i fun a ha=>hF.row _ (aM acK)
 have h3:=hF.row _ (aM hi);have h4:=hF.n;rw[Fy] at h1;omega
end Go.Wf
namespace Go.Proofs.YtlapahnodhmcpaaGreat
open Go.Am Go.Wb Go.Wc Go.Wf Go.We Go.RowKit Go.MapKept
abbrev Xc:=dF 2 Tryz.func49
theorem Xd:Mf Tryz.prog 49 35 82:=by
 refine zK Xc (aah J) fun v w0 M0 aa=>?_
 refine AD [1002,5,4] ?_;exact Mg J J
variable{l:List cy}
theorem Xe {F:List (List aK)}:aU Tryz.prog 49 [pD l F] (.p (.clo 82 [.pc [pD l F] 0])):=by
 refine cN Xc fun w0 M0 aa=>?_
 refine AD [2,5,8004] ?_;rfl
noncomputable abbrev Hv (l:List cy)(F:List (List aK))(E:List (Nat×Nat)):List (Nat×Ob):=[(1000000,.box 102 [vvw (.sl (l.map cS)),vvw (.sl (F.map bU)),.nst 1000002]),(1000001,.box 35 [.pbox 1000000 0]),(1000002,.nmp (je F E) (br 107 (mD F E)) none),(1000003,.box 35 [.pbox 1000000 0])]
theorem Xf:RB Tryz.prog 82 Tryz.f82.ntmps (Tryz.f82.body.getD .skip):=⟨Tryz.f82,Tryz.func82,rfl,rfl,rfl,acL⟩
theorem KT {F:List (List aK)}{z:Nat}{rec:Loop}(hF:sF F)
  (hY:∀i k,i<F.length→k<(F.getD i default).length→L7 Tryz.prog z rec [7] [vvw (jz (i,k)),vvw (fQ (a8 F (i,k)))] [.pbox 1000003 0] (Hv l F (aO F i k)) (Hv l F (aO F i (k+1)))) :
  Au Tryz.prog 82 z rec [.hid (yR z rec [7]) [.bx 1000003],.pbox 1000001 0] (Hv l F (aO F 0 0)) (Hv l F (aO F F.length 0)):=by
 refine mf Xf (aah J) fun w0 M0 aa hmd L9 hwl=>?_
 refine c4 [6,4] [0,10,11,12] [1000000,1000001,1000002,1000003] ?_;refine lp (fun zm zs=>∃i:Nat,zm=F.length-i∧(i≤F.length)∧zs=⟨33,[(0,.hid (yR z rec [7]) [.bx 1000003]),(10,vvw (.sl (F.map bU))),(11,vvw (int F.length)),(12,vvw (int i))],[(1000000,.box 102 [vvw (.sl (l.map cS)),vvw (.sl (F.map bU)),.nst 1000002]),(1000001,.box 35 [.pbox 1000000 0]),(1000002,.nmp (je F (aO F i 0)) (br 107 (mD F (aO F i 0))) none),(1000003,.box 35 [.pbox 1000000 0])]⟩) ?_ ?_;exact⟨_,0,rfl,aan _,rfl⟩;rintro zm zs ⟨i,rfl,aY,rfl⟩;have XF:=hF.n;refine wS [3006] [0,10,11,12,13] [1000000,1000001,1000002,1000003] ?_ ?_<;>intro h1;refine wA [8,8,4] [0,3,10,11,12,17,18,19] [1000000,1000001,1000002,1000003] ?_;refine lr (fun zl zo zm zs=>∃k:Nat,zm=(F.getD i default).length-k∧(k≤(F.getD i default).length)∧zs=eJ 33 [(19,vvw (int k))] zl [(1000000,.box 102 [vvw (.sl (l.map cS)),vvw (.sl (F.map bU)),.nst 1000002]),(1000001,.box 35 [.pbox 1000000 0]),(1000002,.nmp (je F (aO F i k)) (br 107 (mD F (aO F i k))) none),(1000003,.box 35 [.pbox 1000000 0])] zo) ?_ ?_;exact⟨_,0,rfl,aan _,rfl⟩;rintro zm zs ⟨k,rfl,fu,rfl⟩;have hrow:=hF.row (F.getD i default) (aM acK);refine wS [3006] [0,3,10,11,12,17,18,19,20] [1000000,1000001,1000002,1000003] ?_ ?_<;>intro h2;refine wA [8,7] [0,3,5,6,10,11,12,17,18,19] [6,1000000,1000001,1000002,1000003] ?_;refine yG 5 hmd J ?_;refine wZ [6] ?_;refine⟨_,sd [] J J J J J J J (hY i k acK acK) L9 hwl ⟨.inl J,.inl J,trivial⟩ ⟨.inl J,trivial⟩ ⟨rfl,rfl,rfl,rfl,trivial⟩ J J J J aa,?_⟩;refine wA [8,9002] [0,3,10,11,12,17,18,19] [1000000,1000001,1000002,1000003] ?_;exact⟨_,⟨k+1,rfl,acK,rfl⟩,acK⟩;refine wA [8,9002] [0,10,11,12] [1000000,1000001,1000002,1000003] ?_;obtain rfl:k=(F.getD i default).length:=acK;exact⟨_,⟨i+1,rfl,acK,by rw[←y8 J];rfl⟩,acK⟩;refine wZ [5] ?_;refine ec (o1:=[(1000000,_),(1000001,_),(1000002,_),(1000003,_)]) ⟨rfl,rfl,rfl,rfl,trivial⟩ ?_
 first|(obtain rfl:i=F.length:=by omega);rfl
theorem Fz {g:aC}{x:cy}(hg:pF g)(hw:x.lemma_.length≤1099511627776):aU Tryz.prog 47 [cV g,ah x.class_,ints x.lemma_] (.p (.tup [bU (fl g x.class_ x.lemma_),int (cW g x.class_ x.lemma_)])):=Ht hg hw
theorem Y8:RE Tryz.prog 12 Tryz.f12.ntmps 4 5 6 (Tryz.f12.body.getD .skip):=⟨Tryz.f12,Tryz.func12,rfl,rfl,rfl,acL⟩
theorem tX {g:aC}(hg:pF g)(hl:l.length≤1048576)(hL:∀x∈l,x.lemma_.length≤1048576):aU Tryz.prog 12 [cV g,.sl (l.map cS)] (.p (.tup [C1 g l,int (qA g l),int (eE g l)])):=by
 refine wj Y8 (aah J) fun w0 M0 aa hmd=>?_
 refine pW [2,9,3003] [1,2,17] [] ?_ ?_<;>intro h1;refine wZ [10] ?_;refine gx J J J ?_;rotate_left;refine wA [5] [1,2] [] ?_;refine oS J (step_map J J J J J Tryz.underlying100 (fun q hq=>by cases hq<;>exact⟨_,_,rfl⟩) aa) J ?_;refine wA [0] [1,2,18] [18] ?_;refine oP J (DY J Vq Vp J J J J J) ?_;refine oS J (JO J J J J J J J aa) J ?_;refine wA [1] [1,2,7,20] [7,18,20] ?_;refine oS J (eY J J J Yr J J J J J (DQ J J) J aa) J ?_;refine wA [4] [1,2,7] [7,18,20] ?_;refine bG 20 0 41 72 102 aa J J J J ?_;refine bG 20 1 42 46 102 aa J J J J ?_;refine ao.imp (Mu 20 2 aa J J J J J J J) ?_;refine gz [2,4] [2,7,21,22,23] [7,18,20,41,42] ?_;refine lr (fun zl zo zm zs=>∃i:Nat,zm=l.length-i∧(i≤l.length)∧(∀j,j<i→decide (cW g (l.getD j default).class_ (l.getD j default).lemma_=0)=true)∧zs=eJ 89 [(23,vvw (int i))] zl [(7,.box 35 [.pbox 20 0]),(18,.nmp [] [] none),(20,.box 102 [.own 41,.own 42,.nst 18]),(41,.arr 72 ((l.take i).map cS)),(42,.arr 46 ((aH g (l.take i)).map bU))] zo) ?_ ?_;exact⟨_,0,rfl,aan _,fun j hj=>absurd hj acK,rfl⟩;rintro zm zs ⟨i,rfl,aY,aq,rfl⟩;refine wS [3006] [2,7,21,22,23,24] [7,18,20,41,42] ?_ ?_<;>intro h2;refine wA [8,13] [2,7,8,9,21,22,23,29,31,33] [7,9,18,20,41,42] ?_;refine oN J J J J J (Fz (x:=(l.getD i default)) hg (by have:=hL _ (aM (show i<l.length by omega));omega)) ?_;refine wS [3014] [2,7,8,9,10,11,21,22,23,38] [7,9,18,20,41,42] ?_ ?_<;>intro h3;refine wZ [17] ?_;refine gx J J J ?_;rotate_left;refine wA [4] [2,7,9,10,21,22,23] [7,9,18,20,41,42] ?_;refine dC [12] [[(7,.box 35 [.pbox 20 0]),(9,.box 72 [vvw (ints (l.getD i default).lemma_),vvw (ah (l.getD i default).class_)]),(18,.nmp [] [] none),(20,.box 102 [.own 41,.own 42,.nst 18]),(41,.arr 72 ((l.take i).map cS)),(42,.arr 46 ((aH g (l.take i)).map bU))],[(7,.box 35 [.pbox 20 0]),(9,.box 72 [vvw (ints (l.getD i default).lemma_),vvw (ah (l.getD i default).class_)]),(18,.nmp [] [] none),(20,.box 102 [.dead,.own 42,.nst 18]),(42,.arr 46 ((aH g (l.take i)).map bU)),(53,.arr 72 ((l.take i).map cS++[cS (l.getD i default)]))]] 13 [(0,[0,1]),(1,[0]),(2,[0]),(3,[0]),(4,[0]),(5,[0]),(6,[0]),(8,[0]),(9,[0])] [(41,.pbox 20 0),(42,.pbox 20 0),(43,.pbox 20 0),(44,.pbox 20 0),(45,.own 41),(46,.pbox 9 0),(47,vvw (ints (l.getD i default).lemma_)),(48,vvw (ints (l.getD i default).lemma_)),(49,.pbox 9 1),(50,vvw (ah (l.getD i default).class_)),(51,vvw (cS (l.getD i default))),(52,vvw (.sl [cS (l.getD i default)])),(53,.own 53),(2,vvw (kn g)),(7,.pbox 7 0),(9,.pbox 9 0),(10,vvw (bU (fl g (l.getD i default).class_ (l.getD i default).lemma_))),(21,vvw (.sl (l.map cS))),(22,vvw (int l.length)),(23,vvw (int i))] (ai (ai (ae J zQ J J J) (ai (ae J zQ J J J) (trivial))) (ai (ai (ae J zQ J J J) (trivial)) (ai (ai nH (trivial)) (ai (ai nH (trivial)) (ai (ai (ae J Yq J J J) (trivial)) (ai (ai nH (trivial)) (ai (ai (ae J Kl J J J) (trivial)) (ai (fun _=>(bg J J J ((ak.weaken (fj (l:=(l.getD i default).lemma_) (by have:=hL _ (aM (show i<l.length by omega));omega)))) aa)) (ai (ai nH (trivial)) (ai (ai (ae J Z6 J J J) (trivial)) (ai bS (ai bS trivial)))))))))))) (ai (fun X e7 dH c6=>dd (T:=30) (t:=53) (u:=45) (id:=41) (y:=.tmp 52) J J J e7 Tryz.underlying30 EJ ((c6 45 acM).trans J) J (cI (jX ((c6 52 acM).trans J)) (bW (by rfl))) (by rw[aai,aau];simp only[aam,aat];omega) (by rw[aai,aau];simp only[aam,aat];omega) J dH J J J aa) (trivial)) ?_;refine bM (n:=3) acL ?_;refine xe 13 ?_;refine xe 14 ?_;refine aJ (i:=15) acL J J (aV J J J Vj J J J J J aa) ?_;refine bf acL ?_;refine iS [1] [2,7,10,21,22,23] [7,18,20,42,53] ?_;refine dC [7] [[(7,.box 35 [.pbox 20 0]),(18,.nmp [] [] none),(20,.box 102 [.own 53,.own 42,.nst 18]),(42,.arr 46 ((aH g (l.take i)).map bU)),(53,.arr 72 ((l.take i).map cS++[cS (l.getD i default)]))],[(7,.box 35 [.pbox 20 0]),(18,.nmp [] [] none),(20,.box 102 [.own 53,.dead,.nst 18]),(53,.arr 72 ((l.take i).map cS++[cS (l.getD i default)])),(63,.arr 46 ((aH g (l.take i)).map bU++[bU (fl g (l.getD i default).class_ (l.getD i default).lemma_)]))]] 8 [(0,[0,1]),(1,[0]),(2,[0]),(3,[0]),(4,[0])] [(56,.pbox 20 0),(57,.pbox 20 0),(58,.pbox 20 0),(59,.pbox 20 1),(60,.own 42),(61,vvw (bU (fl g (l.getD i default).class_ (l.getD i default).lemma_))),(62,vvw (.sl [bU (fl g (l.getD i default).class_ (l.getD i default).lemma_)])),(63,.own 63),(2,vvw (kn g)),(7,.pbox 7 0),(10,vvw (bU (fl g (l.getD i default).class_ (l.getD i default).lemma_))),(21,vvw (.sl (l.map cS))),(22,vvw (int l.length)),(23,vvw (int i))] (ai (ai (ae J zQ J J J) (ai (ae J zQ J J J) (trivial))) (ai (ai (ae J zQ J J J) (trivial)) (ai (ai nH (trivial)) (ai (ai nH (trivial)) (ai (ai (ae J Yt J J J) (trivial)) (ai bS (ai bS trivial))))))) (ai (fun X e7 dH c6=>dd (T:=39) (t:=63) (u:=60) (id:=42) (y:=.tmp 62) J J J e7 Tryz.underlying39 Vm ((c6 60 acM).trans J) J (cI (jX ((c6 62 acM).trans J)) (bW (by rfl))) (by rw[aai,l3,aau];simp only[aam,aat];omega) (by rw[aai,l3,aau];simp only[aam,aat];omega) J dH J J J aa) (trivial)) ?_;refine bM (n:=3) acL ?_;refine xe 8 ?_;refine xe 9 ?_;refine aJ (i:=10) acL J J (aV J J J Ys J J J J J aa) ?_;refine bf acL ?_;refine iS [2] [2,7,21,22,23] [7,18,20,53,63] ?_;refine ao.imp (jI 20 0 41 aa J J J J J J J J J) ?_;refine ao.imp (jI 20 1 42 aa J J J J J J J J J) ?_;refine gz [1,9002] [2,7,21,22,23] [7,18,20,41,42] ?_;exact⟨_,⟨i+1,rfl,acK,fP aq (decide_eq_true acK),by rw[zb acK,take_succ acK,aas,aas];rfl⟩,acK⟩;refine wA [8] [7] [7,18,20,41,42] ?_;refine ao.imp (ig 20 0 aa J J J J) ?_;refine ao.imp (ig 20 1 aa J J J J) ?_;obtain rfl:i=l.length:=acK;rw[abj];have XG:=oe (g:=g) (l:=l) hg acK;refine gz [2] [7,67] [7,18,20] ?_;refine oS J (Gg J J J J J J J J J (DQ J J) (Xd) aa) J ?_;refine wA [3] [7,68] [7,18,20,68] ?_;refine XQ [(1000000,20),(1000001,68),(1000002,18),(1000003,7)] (Hv l (aH g l) (aO (aH g l) 0 0)) (Hv l (aH g l) (aO (aH g l) (aH g l).length 0)) [7] [.bx 1000003] hmd aa (fun zl zr q1 q2 q3 q4 q5 q6=>KT (l:=l) (F:=aH g l) XG (fun i k hi hk=>BW (n:=89) (p:=69) (q:=70) (ts:=[7]) q1 q2 q3 q4 q5 q6 J (fun w0 M0 aa hmd0=>?_))) J J J ⟨.inl J,trivial⟩ ⟨.inl J,trivial⟩ ⟨rfl,rfl,rfl,rfl,trivial⟩ J J J J J ?_;refine AD [10] ?_;intro w0 M0 aa hmd0;refine c4 [5] [7,12,72] [12,1000000,1000001,1000002,1000003] ?_;refine oC J J J J (u5 (w:=(a8 (aH g l) (i,k)).af) (by have:=(XG.at hi hk).af;omega)) ?_;refine wA [3] [7,12,14] [12,1000000,1000001,1000002,1000003] ?_;refine dC [10,13,14] [[(12,.box 107 [vvw (int i),vvw (int k)]),(1000000,.box 102 [vvw (.sl (l.map cS)),vvw (.sl ((aH g l).map bU)),.nst 1000002]),(1000001,.box 35 [.pbox 1000000 0]),(1000002,.nmp (je (aH g l) (aO (aH g l) i k)) (br 107 (mD (aH g l) (aO (aH g l) i k))) none),(1000003,.box 35 [.pbox 1000000 0])],[(12,.box 107 [vvw (int i),vvw (int k)]),(84,.arr 107 (kA (je (aH g l) (aO (aH g l) i k)) (mD (aH g l) (aO (aH g l) i k)) (iA (aH g l) (i,k)))),(1000000,.box 102 [vvw (.sl (l.map cS)),vvw (.sl ((aH g l).map bU)),.nst 1000002]),(1000001,.box 35 [.pbox 1000000 0]),(1000002,.nmp (je (aH g l) (aO (aH g l) i k)) (br 107 (mD (aH g l) (aO (aH g l) i k))) (wi (je (aH g l) (aO (aH g l) i k)) (iA (aH g l) (i,k)) (.arr 84))),(1000003,.box 35 [.pbox 1000000 0])],[(12,.box 107 [vvw (int i),vvw (int k)]),(87,.arr 107 ((kA (je (aH g l) (aO (aH g l) i k)) (mD (aH g l) (aO (aH g l) i k)) (iA (aH g l) (i,k)))++[(jz (i,k))])),(1000000,.box 102 [vvw (.sl (l.map cS)),vvw (.sl ((aH g l).map bU)),.nst 1000002]),(1000001,.box 35 [.pbox 1000000 0]),(1000002,.nmp (je (aH g l) (aO (aH g l) i k)) (br 107 (mD (aH g l) (aO (aH g l) i k))) (wi (je (aH g l) (aO (aH g l) i k)) (iA (aH g l) (i,k)) .no)),(1000003,.box 35 [.pbox 1000000 0])],[(12,.box 107 [vvw (int i),vvw (int k)]),(1000000,.box 102 [vvw (.sl (l.map cS)),vvw (.sl ((aH g l).map bU)),.nst 1000002]),(1000001,.box 35 [.pbox 1000000 0]),(1000002,.nmp (fY (je (aH g l) (aO (aH g l) i k)) (iA (aH g l) (i,k))) (br 107 (th (je (aH g l) (aO (aH g l) i k)) (mD (aH g l) (aO (aH g l) i k)) (iA (aH g l) (i,k)) ((kA (je (aH g l) (aO (aH g l) i k)) (mD (aH g l) (aO (aH g l) i k)) (iA (aH g l) (i,k)))++[(jz (i,k))]))) none),(1000003,.box 35 [.pbox 1000000 0])]] 15 [(0,[0,1,2]),(1,[0,1,2]),(2,[0,1,2]),(3,[0,1,2]),(5,[0]),(6,[0]),(7,[0]),(8,[0]),(11,[0,1])] [(74,.pbox 1000000 0),(75,.pbox 1000000 0),(76,.pbox 1000000 2),(77,.nst 1000002),(78,vvw (ah (qz (a8 (aH g l) (i,k)).af))),(79,.pbox 1000000 0),(80,.pbox 1000000 0),(81,.pbox 1000000 2),(82,.nst 1000002),(83,vvw (ah (qz (a8 (aH g l) (i,k)).af))),(84,.own 84),(85,vvw (jz (i,k))),(86,vvw (.sl [(jz (i,k))])),(87,.own 87),(7,.pbox 1000003 0),(12,.pbox 12 0),(14,vvw (ah (qz (a8 (aH g l) (i,k)).af)))] (ai (ai (ae J zQ J J J) (ai (ae J zQ J J J) (ai (ae J zQ J J J) (trivial)))) (ai (ai nH (ai nH (ai nH (trivial)))) (ai (ai nH (ai nH (ai nH (trivial)))) (ai (ai (ae J Iv J J J) (ai (ae J Iv J J J) (ai (ae J Iv J J J) (trivial)))) (ai bS (ai (ai (ae J zQ J J J) (trivial)) (ai (ai nH (trivial)) (ai (ai nH (trivial)) (ai (ai (ae J Iv J J J) (trivial)) (ai bS (ai (ai nH (ai nH (trivial))) (ai bS trivial)))))))))))) (ai (fun X e7 dH c6=>have Y9:X.lookup 83=some (vvw (ah (qz (a8 (aH g l) (i,k)).af))):=(c6 83 acM).trans rfl;DW (t:=84) (x:=.tmp 82) (y:=.tmp 83) (key:=(iA (aH g l) (i,k))) J J J J e7 Tryz.underlying100 Tryz.underlying9 N0 ((c6 82 acM).trans J) J (by simp only[aZ,St.ev,Y9];rfl) trivial (tW (aH g l) (aO (aH g l) i k)) dH J J J aa) (ai (fun X e7 dH c6=>dd (T:=109) (t:=87) (u:=84) (id:=84) (y:=.tmp 86) J J J e7 Tryz.underlying109 Vr ((c6 84 acM).trans J) J (cI (jX ((c6 86 acM).trans J)) (bW (by rfl))) (by have:=OG (F:=aH g l) (i:=i) (k:=k) (key:=iA (aH g l) (i,k)) XG hi hk;simp only[aam,aat];omega) (by have:=OG (F:=aH g l) (i:=i) (k:=k) (key:=iA (aH g l) (i,k)) XG hi hk;simp only[aam,aat];omega) J dH J (Eq.trans (b:=[(12,.box 107 [vvw (int i),vvw (int k)]),(87,.arr 107 ((kA (je (aH g l) (aO (aH g l) i k)) (mD (aH g l) (aO (aH g l) i k)) (iA (aH g l) (i,k)))++[(jz (i,k))])),(1000000,.box 102 [vvw (.sl (l.map cS)),vvw (.sl ((aH g l).map bU)),.nst 1000002]),(1000001,.box 35 [.pbox 1000000 0]),(1000002,.nmp (je (aH g l) (aO (aH g l) i k)) (br 107 (mD (aH g l) (aO (aH g l) i k))) (sV (fun d=>d.stays true 87&&d.stays true 84) (sV (SV.stays true 84) (wi (je (aH g l) (aO (aH g l) i k)) (iA (aH g l) (i,k)) (.arr 84))))),(1000003,.box 35 [.pbox 1000000 0])]) J (by rw[AB,AB];rfl)) J aa) (ai (fun X e7 dH c6=>have Za:X.lookup 78=some (vvw (ah (qz (a8 (aH g l) (i,k)).af))):=(c6 78 acM).trans rfl;Gn (x:=.tmp 77) (y:=.tmp 78) (z:=.tmp 87) (key:=(iA (aH g l) (i,k))) J J e7 Tryz.underlying100 Tryz.underlying9 ((c6 77 acM).trans J) J (by simp only[aZ,St.ev,Za];rfl) ((c6 87 acM).trans J) J trivial (tW (aH g l) (aO (aH g l) i k)) dH J J aa) (trivial)))) ?_;refine bM (n:=0) acL ?_;refine bf acL ?_;refine Db [1] ?_;refine cP (o1:=[(1000000,_),(1000001,_),(1000002,_),(1000003,_)]) ⟨rfl,rfl,rfl,rfl,trivial⟩ ?_
 focus (unfold Hv;rw[u6,rj,u7];first|done|rfl)
 refine wA [3] [7] [7,18,20] ?_;refine ao.imp (Gq 20 2 aa J J J J J J J) ?_;refine gz [3] [4] [18,20] ?_;refine ku 89 [(4,_)] [] aa J ⟨.inr ⟨_,_,rfl,rfl,rfl⟩,trivial⟩ trivial ?_;refine Gt [5] ?_;refine gx J J J ?_;rotate_left
 all_goals
  first
   | (rw[w7 (mE acK).2 acM,(mE (g:=g) (l:=l) acK).1,(mE (g:=g) (l:=l) acK).2];exact⟨rfl,rfl,rfl⟩)
   | (have hh:=I3 (g:=g) (l:=l) (i:=i) acK acK aq acN;rw[w7 hh.2 acN,hh.1,hh.2];exact⟨rfl,rfl,rfl⟩)
   | (have hh:=I4 (g:=g) (l:=l) (i:=l.length) acK acK aq;rw[qB hh.2,hh.1,hh.2,PO];exact⟨by unfold pD XE;rw[l3];rfl,rfl,rfl⟩)
end Go.Proofs.YtlapahnodhmcpaaGreat
namespace Go.Wf
open Go.Am Go.Wb Go.Wc
structure mF where
 lexeme:Int
 form:aK
 deriving Inhabited,DecidableEq
def Zb (a:mF):List AV:=int a.lexeme :: EP a.form
def zU (a:mF):AV:=.agg (Zb a)
theorem pg {F:List (List aK)}(hF:sF F){i k:Nat}(hi:i≤F.length)(hk:k≤1000):(aO F i k).length≤1001000:=by
 have h2:=Hu (f:=fun a=>(F.getD a default).length) (B:=1000) i fun a ha=>hF.row _ (aM acK)
 have h4:=hF.n;rw[Fy];have:i*1000≤1000*1000:=abl _ acK;omega
def Bw (F:List (List aK))(w:List Int)(i k:Nat):List mF:=((aO F i k).filter fun p=>decide ((a8 F p).af=w)).map fun p=>⟨(p.1:Nat),a8 F p⟩
def dN (F:List (List aK))(w:List Int):List mF:=Bw F w F.length 0
variable {F:List (List aK)}{w:List Int}{i k:Nat}
theorem Ra (F:List (List aK))(w:List Int)(i k:Nat):(Bw F w i k).length≤(aO F i k).length:=by unfold Bw;rw[aai];exact abx _ _
def Xg (l:List mF)(c:Nat)(k:Nat):Bool:=(l.take k).all fun a=>yW a.form.cuts c
def Hw (l:List mF)(n:Nat):List Int:=((List.range n).filter fun c=>Xg l c l.length).map fun c:Nat=>(c:Int)
def SE (F:List (List aK))(w:List Int):List Int:=if(dN F w).length=0 then[] else Hw (dN F w) (w.length+1)
def ko (F:List (List aK))(i k:Nat):List (List Int):=(aO F i k).foldl (fun o p=>lu o (a8 F p).af) []
def og (F:List (List aK)):List (List Int):=ko F F.length 0
theorem OH (F:List (List aK))(i k:Nat):ko F i (k+1)=lu (ko F i k) (a8 F (i,k)).af:=by unfold ko;rw[u6,abB];rfl
theorem Rb (h:k=(F.getD i default).length):ko F i k=ko F (i+1) 0:=by unfold ko;rw[y8 h]
theorem I5:∀ (l:List (List Int))(x:List Int),(lu l x).length≤l.length+1
 | [],x=>aak _
 | y :: l, x => by
   have:=I5 l x;unfold lu;split
   · simp only[aam];omega
   · split
     · omega
     · simp only[aam];omega
theorem w8:∀ {l:List (List Int)}{x z:List Int},z∈lu l x→z∈l∨z=x
 | [],x,z,h=>.inr (aay.1 h)
 | y :: l, x, z, h => by
   unfold lu at h;split at h
   · rcases aaC.1 h with h | h
     · exact .inl (by rw[h];exact aaq)
     · exact(w8 h).imp (aav _) id
   · split at h
     · exact .inl h
     · rcases aaC.1 h with h | h
       · exact .inr h
       · exact .inl h
theorem OI (F:List (List aK))(i k:Nat):(ko F i k).length≤(aO F i k).length:=by unfold ko;refine iq (C:=fun l=>(l.foldl (fun o p=>lu o (a8 F p).af) []).length≤l.length) (aak _) (fun l p ih=>?_) _;rw[abB,aar];have:=I5 (l.foldl (fun o p=>lu o (a8 F p).af) []) (a8 F p).af;show(lu _ _).length≤_+1;omega
theorem gP (hF:sF F)(p:Nat×Nat):zx (a8 F p):=by
 unfold a8;rcases aaK p.1 F.length with h|h
 ·rcases aaK p.2 (F.getD p.1 default).length with h2|h2
  ·exact hF.form _ (aM h) _ (aM h2)
  ·rw[aag (l:=F.getD p.1 default),aaR h2];exact za
 ·rw[aag (l:=F),aaR h];show zx (([]:List aK).getD p.2 default);exact za
theorem Hx (hF:sF F)(i k:Nat):∀z∈ko F i k,z.length≤1048576:=by
 unfold ko;refine iq (C:=fun l=>∀z∈l.foldl (fun o p=>lu o (a8 F p).af) [],z.length≤1048576) (fun z hz=>by cases hz) (fun l p ih=>?_) _;rw[abB];intro z hz;rcases w8 (show z∈lu _ _ from hz) with h|rfl
 ·exact ih z h
 ·exact(gP hF p).af
def kf (f:aK):List UInt8×List Int:=(f.cell,f.af)
def lv (a b:List aK):Bool:=decide (a.map kf=b.map kf)
theorem I6 (l:List aK)(k:Nat):kf (l.getD k default)=(l.map kf).getD k (kf default):=by rw[aag,aag,aap];cases l[k]?<;>rfl
theorem SF {a b:List aK}(h:a.length≠b.length):lv a b=false:=decide_eq_false fun he=>h (by simpa using congrArg List.length he)
theorem OJ {a b:List aK}{k:Nat}(h:¬((a.getD k default).cell=(b.getD k default).cell∧(a.getD k default).af=(b.getD k default).af)):lv a b=false:=decide_eq_false fun he=>h (by
 have:kf (a.getD k default)=kf (b.getD k default):=by rw[I6,I6,he]
 exact⟨congrArg Prod.fst this,congrArg Prod.snd this⟩)
theorem SH {a b:List aK}{k:Nat}(hl:a.length=b.length)(hk:a.length≤k)(h:∀j,j<k→decide (kf (a.getD j default)=kf (b.getD j default))=true):lv a b=true:=decide_eq_true (by
 refine abe fun j=>?_
 rw[aap,aap];rcases aaK j a.length with hj|hj
 ·have:=of_decide_eq_true (h j acK);rw[eh hj,eh (show j<b.length by omega)] at this;rw[aal hj,aal (show j<b.length by omega)];exact congrArg some this
 ·rw[aaR hj,aaR acK])
def SI:CQ:=⟨⟨[],[],[],[]⟩,[],[]⟩
def rE (g:aC)(l:List cy):CQ:=if eE g l=0 then⟨g,l,aH g l⟩ else SI
variable{g:aC}{l:List cy}
theorem OK {e:Int}(h:eE g l=e)(h0:e≠0):rE g l=SI:=if_neg (by rw[h];exact h0)
theorem C2 (h:eE g l=0):rE g l=⟨g,l,aH g l⟩:=if_pos h
def lD (F F':List (List aK))(n:Nat):List Int:=((List.range n).filter fun i=>!lv (F.getD i default) (F'.getD i default)).map fun i:Nat=>(i:Int)
def tY (g:aC)(l:List cy)(F:List (List aK)):List Int:=if eE g l=0 then lD F (aH g l) F.length else[]
theorem Rc {F F':List (List aK)}{n:Nat}(h:lv (F.getD n default) (F'.getD n default)=false):lD F F' (n+1)=lD F F' n++[(n:Int)]:=by unfold lD;rw[aa8,abq,aas,abb,if_pos (by rw[h];rfl),abV];rfl
theorem Ui {F F':List (List aK)}{n:Nat}(h:lv (F.getD n default) (F'.getD n default)=true):lD F F' (n+1)=lD F F' n:=by unfold lD;rw[aa8,abq,aas,abb,if_neg (by rw[h];decide),abV,abu,aaP]
theorem I7 (F F':List (List aK))(n:Nat):(lD F F' n).length≤n:=by unfold lD;rw[aai];exact aaO (abx _ _) (by rw[aaA];exact aak _)
theorem Re (h:eE g l≠0):tY g l F=[]:=if_neg h
theorem zc (h:eE g l=0):tY g l F=lD F (aH g l) F.length:=if_pos h
theorem KU (h:eE g l=0):l.length≤64:=by
 rcases aaK 64 l.length with h1|h1
 ·rw[(mE h1).2] at h;cases h
 ·exact h1
section
variable {α:Type} [DecidableEq α] [Inhabited α]{a b:List α}
end
end Go.Wf
