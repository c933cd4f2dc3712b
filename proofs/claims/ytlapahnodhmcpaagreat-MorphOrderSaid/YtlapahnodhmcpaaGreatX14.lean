/-
  Part of the proof.
-/
import Derived.Test.YtlapahnodhmcpaaGreatX13
set_option linter.unusedVariables false
set_option linter.unusedSectionVars false
set_option linter.unusedSimpArgs false
set_option maxRecDepth 100000
set_option maxHeartbeats 40000000
namespace Go.Wf
open Go.Am Go.Wb Go.Wc Go.RowKit Go.MapKept
def aQ (f:List (List aI))(i k:Nat):List (Nat×Nat):=(List.range i).flatMap (fun a=>(List.range (f.getD a default).length).map fun b=>(a,b))++(List.range k).map fun b=>(i,b)
theorem oe (f:List (List aI))(i k:Nat):aQ f i (k+1)=aQ f i k++[(i,k)]:=by unfold aQ;rw[abB,aaK,abr];rfl
variable{i k:Nat}
theorem tV {f:List (List aI)}(h:k=(f.getD i default).length):aQ f i k=aQ f (i+1) 0:=by subst h;unfold aQ;rw[abB (n:=i),acp];simp
def a8 (f:List (List aI))(p:Nat×Nat):aI:=(f.getD p.1 default).getD p.2 default
def jD (p:Nat×Nat):AV:=.agg [int p.1,int p.2]
def Ld (s:List UInt8):Value:=.string ⟨s.toArray⟩
def iB (f:List (List aI))(p:Nat×Nat):Value:=Ld (qp (a8 f p).af)
noncomputable def mapStep (f:List (List aI))(s:List Value×List (List AV))(p:Nat×Nat):List Value×List (List AV):=(Go.Am.fZ s.1 (iB f p),te s.1 s.2 (iB f p) (ku s.1 s.2 (iB f p)++[jD p]))
noncomputable def OV (f:List (List aI))(l:List (Nat×Nat)):List Value×List (List AV):=l.foldl (mapStep f) ([],[])
noncomputable def jh (f:List (List aI))(l:List (Nat×Nat)):List Value:=(OV f l).1
noncomputable def mC (f:List (List aI))(l:List (Nat×Nat)):List (List AV):=(OV f l).2
theorem Bx (f:List (List aI))(l:List (Nat×Nat))(p:Nat×Nat):OV f (l++[p])=mapStep f (OV f l) p:=by unfold OV;rw[ab2];rfl
theorem qY (f:List (List aI))(l:List (Nat×Nat))(p:Nat×Nat):jh f (l++[p])=Go.Am.fZ (jh f l) (iB f p):=by unfold jh;rw[Bx];rfl
theorem u6 (f:List (List aI))(l:List (Nat×Nat))(p:Nat×Nat):mC f (l++[p])=te (jh f l) (mC f l) (iB f p) (ku (jh f l) (mC f l) (iB f p)++[jD p]):=by unfold mC jh;rw[Bx];rfl
theorem iu {α:Type}{C:List α→Prop}(h0:C [])(hs:∀l x,C l→C (l++[x])):∀l,C l:=by
 have key:∀(n:Nat)(l:List α),l.length=n→C l:=by
   intro n
   induction n with
   | zero=>intro l h;rw[aa4 h];exact h0
   | succ n ih =>
     intro l h;have hne:l≠[]:=fun q=>by rw[q] at h;cases h
     have e:=List.dropLast_concat_getLast hne;rw[←e];exact hs _ _ (ih _ (by rw[List.length_dropLast];omega))
 exact fun l=>key _ l J
theorem OW {ks:List Value}{k u:Value}(h:u∈Go.Am.fZ ks k):u∈ks∨u=k:=by
 unfold Go.Am.fZ at h;split at h
 ·exact .inl h
 ·rcases abl.1 h with h|h
  ·exact .inl h
  ·exact .inr (aaY.1 h)
theorem tW (f:List (List aI))(l:List (Nat×Nat)):∀u∈jh f l,IsKey .string u:=by
 refine iu (C:=fun l=>∀u∈jh f l,IsKey .string u) (fun u hu=>by cases hu) (fun l p ih u hu=>?_) l;rw[qY] at hu;rcases OW hu with h|rfl
 ·exact ih u h
 ·trivial
theorem mQ (f:List (List aI))(l:List (Nat×Nat)):(jh f l).length=(mC f l).length:=by
 refine iu (C:=fun l=>(jh f l).length=(mC f l).length) J (fun l p ih=>?_) l;rw[qY,u6];unfold Go.Am.fZ te;cases dU (jh f l) (iB f p) with
 | none=>simp[ih]
 | some i=>simp[ih]
open Classical in
theorem OX {ks:List Value} {rows:List (List AV)} {k key:Value} {xs:List AV} (hl:ks.length=rows.length):ku (Go.Am.fZ ks k) (te ks rows k xs) key=if key=k then xs else ku ks rows key:=by
 unfold Go.Am.fZ te;cases hp:dU ks k with
 | some i =>
   have hi:i<rows.length:=by rw[←hl];exact(aa0.1 (eX hp)).1
   by_cases h:key=k
   · subst h
     rw[if_pos rfl];unfold ku;rw[hp];show(rows.set i xs).getD i []=xs;rw[aax,ab9 hi];rfl
   · rw [if_neg h]
     unfold ku;cases hk:dU ks key with
     | none=>rfl
     | some j =>
       have hne:i≠j:=fun q=>by
         subst q;have h1:=eX hp;have h2:=eX hk;rw[h1] at h2;exact h (by injection h2 with h2;exact h2.symm)
       show(rows.set i xs).getD j []=rows.getD j [];rw[aax,ace hne,aax]
 | none =>
   have happ:∀key,key≠k→dU (ks++[k]) key=dU ks key:=fun key h=>by
     have:∀l:List Value,dU (l++[k]) key=dU l key:=by
       intro l
       induction l with
       | nil =>
         show dU [k] key=none;unfold dU;rw[if_neg (fun q=>h q.symm)];rfl
       | cons x l ih =>
         rw[acg];unfold dU;rw[ih]
     exact this ks
   have hkk:dU (ks++[k]) k=some ks.length:=by
     have:∀l:List Value,dU l k=none→dU (l++[k]) k=some l.length:=by
       intro l
       induction l with
       | nil=>intro _;show dU [k] k=some 0;unfold dU;rw[if_pos rfl]
       | cons x l ih =>
         intro hn;unfold dU at hn;rw[acg];unfold dU;by_cases q:x=k
         · rw[if_pos q] at hn;cases hn
         · rw [if_neg q] at hn ⊢
           rw[Option.map_eq_none_iff] at hn;rw[ih hn];rfl
     exact this ks hp
   by_cases h:key=k
   · subst h
     rw[if_pos rfl];unfold ku;rw[hkk];show(rows++[xs]).getD ks.length []=xs;rw[hl,aax,aa6 (aaD _),acM];rfl
   · rw [if_neg h]
     unfold ku;rw[happ key h];cases hk:dU ks key with
     | none=>rfl
     | some j =>
       have hj:j<rows.length:=by rw[←hl];exact(aa0.1 (eX hk)).1
       show(rows++[xs]).getD j []=rows.getD j [];rw[aax,aa8 hj,aax]
noncomputable def atKey (f:List (List aI))(l:List (Nat×Nat))(key:Value):List (Nat×Nat):=by classical exact l.filter fun p=>decide (iB f p=key)
theorem y9 (f:List (List aI))(l:List (Nat×Nat))(key:Value):ku (jh f l) (mC f l) key=(atKey f l key).map jD:=by
 classical
 refine iu (C:=fun l=>ku (jh f l) (mC f l) key=(atKey f l key).map jD) J (fun l p ih=>?_) l;rw[qY,u6,OX (mQ f l)];unfold atKey;rw[abG,aaK];by_cases h:key=iB f p
 ·subst h;rw[if_pos rfl,ih];unfold atKey
  congr 1
  rw[abz,if_pos (decide_eq_true rfl),acf];rfl
 ·rw[if_neg h,ih];unfold atKey;rw[abz,if_neg (by simpa using fun q=>h q.symm),acf,abW,abe]
theorem OY {ks:List Value}{rows:List (List AV)}(hl:ks.length=rows.length)(key:Value):(sY (.sc (.slice none 0 0)) ks (rows.map AV.sl) key).norm=.sl (ku ks rows key):=by
 unfold sY ku;cases hk:dU ks key with
 | none=>rfl
 | some j =>
   have hj:j<rows.length:=by rw[←hl];exact(aa0.1 (eX hk)).1
   show((rows.map AV.sl).getD j _).norm=AV.sl (rows.getD j []);rw[aax,aaI,aaF hj,aax,aaF hj];rfl
noncomputable def Yp (l:List da)(f:List (List aI)):List AV:=[.sl (l.map dx),.sl (f.map b7),.mp (jh f (aQ f f.length 0)) ((mC f (aQ f f.length 0)).map AV.sl)]
noncomputable def sC (l:List da)(f:List (List aI)):AV:=.pc (Yp l f) 0
def aL (g:aA)(l:List da):List (List aI):=l.map fun x=>fw g x.class_ x.lemma_
def C4 (g:aA):List da→Nat×Int
 | []=>(0,0)
 | x :: l=>if c5 g x.class_ x.lemma_≠0 then(0,c5 g x.class_ x.lemma_) else if(C4 g l).2=0 then(0,0) else((C4 g l).1+1,(C4 g l).2)
def u7 (g:aA)(l:List da):Int:=if 64<l.length then 0 else((C4 g l).1:Nat)
def ji (g:aA)(l:List da):Int:=if 64<l.length then 4 else(C4 g l).2
variable {g:aA}
theorem Jj:∀ {l:List da}{i:Nat},i<l.length→(∀j,j<i→decide (c5 g (l.getD j default).class_ (l.getD j default).lemma_=0)=true)→c5 g (l.getD i default).class_ (l.getD i default).lemma_≠0→C4 g l=(i,c5 g (l.getD i default).class_ (l.getD i default).lemma_)
 | [],i,h,_,_=>absurd h (Nat.not_lt_zero i)
 | c :: l,0,_,_,hn=>if_pos hn
 | c :: l, i + 1, h, hz, hn => by
   have h0:c5 g c.class_ c.lemma_=0:=of_decide_eq_true (hz 0 adh);have ih:=Jj (l:=l) (i:=i) (by simpa using h) (fun j hj=>hz (j+1) adh) hn;unfold C4;have hn':c5 g (l.getD i default).class_ (l.getD i default).lemma_≠0:=hn;rw[if_neg (fun q=>q h0),ih,if_neg hn'];rfl
theorem C5:∀ {l:List da},(∀j,j<l.length→decide (c5 g (l.getD j default).class_ (l.getD j default).lemma_=0)=true)→C4 g l=(0,0)
 | [],_=>rfl
 | c :: l, h => by
   have h0:c5 g c.class_ c.lemma_=0:=of_decide_eq_true (h 0 (by simp));unfold C4;rw[if_neg (fun q=>q h0),C5 (l:=l) fun j hj=>h (j+1) (by simpa using hj),if_pos rfl]
variable{l:List da}
theorem mD (h:64<l.length):u7 g l=0∧ji g l=4:=⟨if_pos h,if_pos h⟩
theorem Jk (h0:¬64<l.length)(h:i<l.length)(hz:∀j,j<i→decide (c5 g (l.getD j default).class_ (l.getD j default).lemma_=0)=true)(hn:c5 g (l.getD i default).class_ (l.getD i default).lemma_≠0) :
  u7 g l=i∧ji g l=c5 g (l.getD i default).class_ (l.getD i default).lemma_:=by
 have e:=Jj h hz hn;exact⟨by unfold u7;rw[if_neg h0,e],by unfold ji;rw[if_neg h0,e]⟩
theorem Jl (h0:¬64<l.length)(hi:l.length≤i)(hz:∀j,j<i→decide (c5 g (l.getD j default).class_ (l.getD j default).lemma_=0)=true):u7 g l=0∧ji g l=0:=by
 have e:=C5 (g:=g) (l:=l) fun j hj=>hz j adh
 exact⟨by unfold u7;rw[if_neg h0,e];rfl,by unfold ji;rw[if_neg h0,e]⟩
noncomputable def OZ (g:aA)(l:List da):AV:=if ji g l=0 then sC l (aL g l) else .sc (.pointer none)
theorem Jm {e:Int}(h:ji g l=e)(h0:e≠0):OZ g l=.sc (.pointer none):=if_neg (by rw[h];exact h0)
theorem O0 (h:ji g l=0):OZ g l=sC l (aL g l):=if_pos h
structure rP (f:List (List aI)):Prop where
 n:f.length≤1000
 row:∀r∈f,r.length≤1000
 form:∀r∈f,∀x∈r,zS x
theorem za:zS Jf:=⟨by decide,by decide,by decide⟩
theorem O1 {cl cn:List UInt8} {w:List Int} (hg:mB g):zS (gk g cl cn w):=by
 unfold gk;split
 · next h =>
   have h4 : (wK (u3 g cl cn w) (oq g)).length ≤ 64 := by
     unfold dF at h;split at h
     · next h1=>exact absurd h h1
     · split at h
       · cases h
       · split at h
         · cases h
         · split at h
           · cases h
           · next h3 =>
             split at h
             · cases h
             · next h4=>exact sA (by simpa using h4) adh
   have h5:=tL (wK (u3 g cl cn w) (oq g));have h6:=CV (wK (u3 g cl cn w) (oq g)) (wK (u3 g cl cn w) (oq g)).length;have h7:=o7 (jC g cl cn) (bU g cl w);have h8:=o7 (oq g) (u3 g cl cn w);have h9:(jC g cl cn).length≤1000:=abb kN (jB hg cl cn).change;have h10:(oq g).length≤1000:=abb kN hg.order;refine⟨by show(hJ _).length≤_;omega,by show(K8 _).length≤_;unfold K8;omega,?_⟩;show(_++_:List (List UInt8)).length≤_;rw[aaM];omega
 · exact za
theorem FJ {cl:List UInt8}{w:List Int}(hg:mB g):(fw g cl w).length≤1000∧∀x∈fw g cl w,zS x:=by
 unfold fw;split
 ·refine⟨by rw[aaA];exact(lz hg cl).cells,fun x hx=>?_⟩;obtain⟨c,_,rfl⟩:=aa7.1 hx;exact O1 hg
 ·exact⟨aaG _,fun x hx=>by cases hx⟩
theorem qq (hg:mB g)(hl:l.length≤1000):rP (aL g l):=by
 refine⟨by unfold aL;rw[aaA];exact hl,fun r hr=>?_,fun r hr=>?_⟩
 ·obtain⟨x,_,rfl⟩:=aa7.1 hr;exact(FJ hg).1
 ·obtain⟨x,_,rfl⟩:=aa7.1 hr;exact(FJ hg).2
theorem rP.at {f:List (List aI)}(h:rP f)(hi:i<f.length)(hk:k<(f.getD i default).length):zS (a8 f (i,k)):=h.form _ (aO hi) _ (aO hk)
theorem zb (h:i<l.length):aL g (l.take (i+1))=aL g (l.take i)++[fw g (l.getD i default).class_ (l.getD i default).lemma_]:=by unfold aL;rw[take_succ h,aaK];rfl
theorem kB (l:List da):(aL g l).length=l.length:=aaA _
theorem FK (f:List (List aI))(i k:Nat):(aQ f i k).length=((List.range i).map fun a=>(f.getD a default).length).sum+k:=by
 unfold aQ;rw[aaM,aaA,aa1,List.length_flatMap]
 congr 2
 exact acQ fun a _=>by rw[aaA,aa1]
theorem HN {f:Nat→Nat}{B:Nat}:∀n,(∀a,a<n→f a≤B)→((List.range n).map f).sum≤n*B
 | 0,_=>by simp
 | n + 1, h => by
   rw[abB,aaK,List.sum_append,acY];have:=HN n fun a ha=>h a adh
   have:=h n adh;simp only[abx,abW,List.sum_cons,List.sum_nil];omega
theorem O2 {F:List (List aI)}{key:Value}(hF:rP F)(hi:i<F.length)(hk:k<(F.getD i default).length):(ku (jh F (aQ F i k)) (mC F (aQ F i k)) key).length≤1000*1000+1000:=by
 rw[y9,aaA];have h1:(atKey F (aQ F i k) key).length≤(aQ F i k).length:=by unfold atKey;exact abT _ _
 have h2:=HN (f:=fun a=>(F.getD a default).length) (B:=1000) i fun a ha=>hF.row _ (aO adh)
 have h3:=hF.row _ (aO hi);have h4:=hF.n;rw[FK] at h1;omega
end Go.Wf
namespace Go.Proofs.YtlapahnodhmcpaaGreat
open Go.Am Go.Wb Go.Wc Go.Wf Go.We Go.RowKit Go.MapKept
abbrev X0:=dT 2 Tryz.func49
theorem X1:Mx Tryz.prog 49 35 82:=by
 refine zJ X0 (aaz J) fun v w0 M0 ae=>?_
 refine AD [1002,5,4] ?_;exact My J J
variable{l:List da}
theorem X2 {F:List (List aI)}:aV Tryz.prog 49 [sC l F] (.p (.clo 82 [.pc [sC l F] 0])):=by
 refine cN X0 fun w0 M0 ae=>?_
 refine AD [2,5,8004] ?_;rfl
noncomputable abbrev HO (l:List da)(F:List (List aI))(E:List (Nat×Nat)):List (Nat×Ob):=[(1000000,.box 102 [vvw (.sl (l.map dx)),vvw (.sl (F.map b7)),.nst 1000002]),(1000001,.box 35 [.pbox 1000000 0]),(1000002,.nmp (jh F E) (br 107 (mC F E)) none),(1000003,.box 35 [.pbox 1000000 0])]
theorem X3:R1 Tryz.prog 82 Tryz.f82.ntmps (Tryz.f82.body.getD .skip):=⟨Tryz.f82,Tryz.func82,rfl,rfl,rfl,adi⟩
theorem Le {F:List (List aI)}{z:Nat}{rec:Loop}(hF:rP F)
  (hY:∀i k,i<F.length→k<(F.getD i default).length→Mq Tryz.prog z rec [7] [vvw (jD (i,k)),vvw (gF (a8 F (i,k)))] [.pbox 1000003 0] (HO l F (aQ F i k)) (HO l F (aQ F i (k+1)))) :
  Au Tryz.prog 82 z rec [.hid (yR z rec [7]) [.bx 1000003],.pbox 1000001 0] (HO l F (aQ F 0 0)) (HO l F (aQ F F.length 0)):=by
 refine me X3 (aaz J) fun w0 M0 ae hmd Ms hwl=>?_
 refine db [6,4] [0,10,11,12] [1000000,1000001,1000002,1000003] ?_;refine lp (fun zm zs=>∃i:Nat,zm=F.length-i∧(i≤F.length)∧zs=⟨33,[(0,.hid (yR z rec [7]) [.bx 1000003]),(10,vvw (.sl (F.map b7))),(11,vvw (int F.length)),(12,vvw (int i))],[(1000000,.box 102 [vvw (.sl (l.map dx)),vvw (.sl (F.map b7)),.nst 1000002]),(1000001,.box 35 [.pbox 1000000 0]),(1000002,.nmp (jh F (aQ F i 0)) (br 107 (mC F (aQ F i 0))) none),(1000003,.box 35 [.pbox 1000000 0])]⟩) ?_ ?_;exact⟨_,0,rfl,aaG _,rfl⟩;rintro zm zs ⟨i,rfl,aY,rfl⟩;have Yq:=hF.n;refine wS [3006] [0,10,11,12,13] [1000000,1000001,1000002,1000003] ?_ ?_<;>intro h1;refine wA [8,8,4] [0,3,10,11,12,17,18,19] [1000000,1000001,1000002,1000003] ?_;refine lr (fun zl zo zm zs=>∃k:Nat,zm=(F.getD i default).length-k∧(k≤(F.getD i default).length)∧zs=eV 33 [(19,vvw (int k))] zl [(1000000,.box 102 [vvw (.sl (l.map dx)),vvw (.sl (F.map b7)),.nst 1000002]),(1000001,.box 35 [.pbox 1000000 0]),(1000002,.nmp (jh F (aQ F i k)) (br 107 (mC F (aQ F i k))) none),(1000003,.box 35 [.pbox 1000000 0])] zo) ?_ ?_;exact⟨_,0,rfl,aaG _,rfl⟩;rintro zm zs ⟨k,rfl,gi,rfl⟩;have hrow:=hF.row (F.getD i default) (aO adh);refine wS [3006] [0,3,10,11,12,17,18,19,20] [1000000,1000001,1000002,1000003] ?_ ?_<;>intro h2;refine wA [8,7] [0,3,5,6,10,11,12,17,18,19] [6,1000000,1000001,1000002,1000003] ?_;refine yG 5 hmd J ?_;refine wZ [6] ?_;refine⟨_,r8 [] J J J J J J J (hY i k adh adh) Ms hwl ⟨.inl J,.inl J,trivial⟩ ⟨.inl J,trivial⟩ ⟨rfl,rfl,rfl,rfl,trivial⟩ J J J J ae,?_⟩;refine wA [8,9002] [0,3,10,11,12,17,18,19] [1000000,1000001,1000002,1000003] ?_;exact⟨_,⟨k+1,rfl,adh,rfl⟩,adh⟩;refine wA [8,9002] [0,10,11,12] [1000000,1000001,1000002,1000003] ?_;obtain rfl:k=(F.getD i default).length:=adh;exact⟨_,⟨i+1,rfl,adh,by rw[←tV J];rfl⟩,adh⟩;refine wZ [5] ?_;refine en (o1:=[(1000000,_),(1000001,_),(1000002,_),(1000003,_)]) ⟨rfl,rfl,rfl,rfl,trivial⟩ ?_
 first|(obtain rfl:i=F.length:=by omega);rfl
theorem FL {g:aA}{x:da}(hg:mB g)(hw:x.lemma_.length≤1099511627776):aV Tryz.prog 47 [cD g,ak x.class_,ints x.lemma_] (.p (.tup [b7 (fw g x.class_ x.lemma_),int (c5 g x.class_ x.lemma_)])):=HL hg hw
theorem ZR:R4 Tryz.prog 12 Tryz.f12.ntmps 4 5 6 (Tryz.f12.body.getD .skip):=⟨Tryz.f12,Tryz.func12,rfl,rfl,rfl,adi⟩
theorem FM {g:aA}(hg:mB g)(hl:l.length≤1048576)(hL:∀x∈l,x.lemma_.length≤1048576):aV Tryz.prog 12 [cD g,.sl (l.map dx)] (.p (.tup [OZ g l,int (u7 g l),int (ji g l)])):=by
 refine wh ZR (aaz J) fun w0 M0 ae hmd=>?_
 refine pO [2,9,3003] [1,2,17] [] ?_ ?_<;>intro h1;refine wZ [10] ?_;refine gz J J J ?_;rotate_left;refine wA [5] [1,2] [] ?_;refine oS J (step_map J J J J J Tryz.underlying100 (fun q hq=>by cases hq<;>exact⟨_,_,rfl⟩) ae) J ?_;refine wA [0] [1,2,18] [18] ?_;refine oP J (Ea J Wl Wk J J J J J) ?_;refine oS J (J8 J J J J J J J ae) J ?_;refine wA [1] [1,2,7,20] [7,18,20] ?_;refine oS J (fb J J J Zb J J J J J (D2 J J) J ae) J ?_;refine wA [4] [1,2,7] [7,18,20] ?_;refine bN 20 0 41 72 102 ae J J J J ?_;refine bN 20 1 42 46 102 ae J J J J ?_;refine aw.imp (MM 20 2 ae J J J J J J J) ?_;refine gV [2,4] [2,7,21,22,23] [7,18,20,41,42] ?_;refine lr (fun zl zo zm zs=>∃i:Nat,zm=l.length-i∧(i≤l.length)∧(∀j,j<i→decide (c5 g (l.getD j default).class_ (l.getD j default).lemma_=0)=true)∧zs=eV 89 [(23,vvw (int i))] zl [(7,.box 35 [.pbox 20 0]),(18,.nmp [] [] none),(20,.box 102 [.own 41,.own 42,.nst 18]),(41,.arr 72 ((l.take i).map dx)),(42,.arr 46 ((aL g (l.take i)).map b7))] zo) ?_ ?_;exact⟨_,0,rfl,aaG _,fun j hj=>absurd hj adh,rfl⟩;rintro zm zs ⟨i,rfl,aY,ax,rfl⟩;refine wS [3006] [2,7,21,22,23,24] [7,18,20,41,42] ?_ ?_<;>intro h2;refine wA [8,13] [2,7,8,9,21,22,23,29,31,33] [7,9,18,20,41,42] ?_;refine oN J J J J J (FL (x:=(l.getD i default)) hg (by have:=hL _ (aO (show i<l.length by omega));omega)) ?_;refine wS [3014] [2,7,8,9,10,11,21,22,23,38] [7,9,18,20,41,42] ?_ ?_<;>intro h3;refine wZ [17] ?_;refine gz J J J ?_;rotate_left;refine wA [4] [2,7,9,10,21,22,23] [7,9,18,20,41,42] ?_;refine dC [12] [[(7,.box 35 [.pbox 20 0]),(9,.box 72 [vvw (ints (l.getD i default).lemma_),vvw (ak (l.getD i default).class_)]),(18,.nmp [] [] none),(20,.box 102 [.own 41,.own 42,.nst 18]),(41,.arr 72 ((l.take i).map dx)),(42,.arr 46 ((aL g (l.take i)).map b7))],[(7,.box 35 [.pbox 20 0]),(9,.box 72 [vvw (ints (l.getD i default).lemma_),vvw (ak (l.getD i default).class_)]),(18,.nmp [] [] none),(20,.box 102 [.dead,.own 42,.nst 18]),(42,.arr 46 ((aL g (l.take i)).map b7)),(53,.arr 72 ((l.take i).map dx++[dx (l.getD i default)]))]] 13 [(0,[0,1]),(1,[0]),(2,[0]),(3,[0]),(4,[0]),(5,[0]),(6,[0]),(8,[0]),(9,[0])] [(41,.pbox 20 0),(42,.pbox 20 0),(43,.pbox 20 0),(44,.pbox 20 0),(45,.own 41),(46,.pbox 9 0),(47,vvw (ints (l.getD i default).lemma_)),(48,vvw (ints (l.getD i default).lemma_)),(49,.pbox 9 1),(50,vvw (ak (l.getD i default).class_)),(51,vvw (dx (l.getD i default))),(52,vvw (.sl [dx (l.getD i default)])),(53,.own 53),(2,vvw (ng g)),(7,.pbox 7 0),(9,.pbox 9 0),(10,vvw (b7 (fw g (l.getD i default).class_ (l.getD i default).lemma_))),(21,vvw (.sl (l.map dx))),(22,vvw (int l.length)),(23,vvw (int i))] (ai (ai (aa J zO J J J) (ai (aa J zO J J J) (trivial))) (ai (ai (aa J zO J J J) (trivial)) (ai (ai kW (trivial)) (ai (ai kW (trivial)) (ai (ai (aa J Za J J J) (trivial)) (ai (ai kW (trivial)) (ai (ai (aa J KH J J J) (trivial)) (ai (fun _=>(bE J J J ((au.weaken (ft (l:=(l.getD i default).lemma_) (by have:=hL _ (aO (show i<l.length by omega));omega)))) ae)) (ai (ai kW (trivial)) (ai (ai (aa J ag9 J J J) (trivial)) (ai bV (ai bV trivial)))))))))))) (ai (fun X eC dv cZ=>ck (T:=30) (t:=53) (u:=45) (id:=41) (y:=.tmp 52) J J J eC Tryz.underlying30 QZ ((cZ 45 adj).trans J) J (cA (gp ((cZ 52 adj).trans J)) (bO (by rfl))) (by rw[aaA,aaO];simp only[aaE,aaL];omega) (by rw[aaA,aaO];simp only[aaE,aaL];omega) J dv J J J ae) (trivial)) ?_;refine bM (n:=3) adi ?_;refine xe 13 ?_;refine xe 14 ?_;refine aH (i:=15) adi J J (aP J J J Y9 J J J J J ae) ?_;refine bf adi ?_;refine hZ [1] [2,7,10,21,22,23] [7,18,20,42,53] ?_;refine dC [7] [[(7,.box 35 [.pbox 20 0]),(18,.nmp [] [] none),(20,.box 102 [.own 53,.own 42,.nst 18]),(42,.arr 46 ((aL g (l.take i)).map b7)),(53,.arr 72 ((l.take i).map dx++[dx (l.getD i default)]))],[(7,.box 35 [.pbox 20 0]),(18,.nmp [] [] none),(20,.box 102 [.own 53,.dead,.nst 18]),(53,.arr 72 ((l.take i).map dx++[dx (l.getD i default)])),(63,.arr 46 ((aL g (l.take i)).map b7++[b7 (fw g (l.getD i default).class_ (l.getD i default).lemma_)]))]] 8 [(0,[0,1]),(1,[0]),(2,[0]),(3,[0]),(4,[0])] [(56,.pbox 20 0),(57,.pbox 20 0),(58,.pbox 20 0),(59,.pbox 20 1),(60,.own 42),(61,vvw (b7 (fw g (l.getD i default).class_ (l.getD i default).lemma_))),(62,vvw (.sl [b7 (fw g (l.getD i default).class_ (l.getD i default).lemma_)])),(63,.own 63),(2,vvw (ng g)),(7,.pbox 7 0),(10,vvw (b7 (fw g (l.getD i default).class_ (l.getD i default).lemma_))),(21,vvw (.sl (l.map dx))),(22,vvw (int l.length)),(23,vvw (int i))] (ai (ai (aa J zO J J J) (ai (aa J zO J J J) (trivial))) (ai (ai (aa J zO J J J) (trivial)) (ai (ai kW (trivial)) (ai (ai kW (trivial)) (ai (ai (aa J Zd J J J) (trivial)) (ai bV (ai bV trivial))))))) (ai (fun X eC dv cZ=>ck (T:=39) (t:=63) (u:=60) (id:=42) (y:=.tmp 62) J J J eC Tryz.underlying39 Wa ((cZ 60 adj).trans J) J (cA (gp ((cZ 62 adj).trans J)) (bO (by rfl))) (by rw[aaA,kB,aaO];simp only[aaE,aaL];omega) (by rw[aaA,kB,aaO];simp only[aaE,aaL];omega) J dv J J J ae) (trivial)) ?_;refine bM (n:=3) adi ?_;refine xe 8 ?_;refine xe 9 ?_;refine aH (i:=10) adi J J (aP J J J Zc J J J J J ae) ?_;refine bf adi ?_;refine hZ [2] [2,7,21,22,23] [7,18,20,53,63] ?_;refine aw.imp (jK 20 0 41 ae J J J J J J J J J) ?_;refine aw.imp (jK 20 1 42 ae J J J J J J J J J) ?_;refine gV [1,9002] [2,7,21,22,23] [7,18,20,41,42] ?_;exact⟨_,⟨i+1,rfl,adh,e6 ax (decide_eq_true adh),by rw[zb adh,take_succ adh,aaK,aaK];rfl⟩,adh⟩;refine wA [8] [7] [7,18,20,41,42] ?_;refine aw.imp (ik 20 0 ae J J J J) ?_;refine aw.imp (ik 20 1 ae J J J J) ?_;obtain rfl:i=l.length:=adh;rw[abK];have Yr:=qq (g:=g) (l:=l) hg adh;refine gV [2] [7,67] [7,18,20] ?_;refine oS J (Gz J J J J J J J J J (D2 J J) (X1) ae) J ?_;refine wA [3] [7,68] [7,18,20,68] ?_;refine YD [(1000000,20),(1000001,68),(1000002,18),(1000003,7)] (HO l (aL g l) (aQ (aL g l) 0 0)) (HO l (aL g l) (aQ (aL g l) (aL g l).length 0)) [7] [.bx 1000003] hmd ae (fun zl zr q1 q2 q3 q4 q5 q6=>Le (l:=l) (F:=aL g l) Yr (fun i k hi hk=>B6 (n:=89) (p:=69) (q:=70) (ts:=[7]) q1 q2 q3 q4 q5 q6 J (fun w0 M0 ae hmd0=>?_))) J J J ⟨.inl J,trivial⟩ ⟨.inl J,trivial⟩ ⟨rfl,rfl,rfl,rfl,trivial⟩ J J J J J ?_;refine AD [10] ?_;intro w0 M0 ae hmd0;refine db [5] [7,12,72] [12,1000000,1000001,1000002,1000003] ?_;refine oC J J J J (u5 (w:=(a8 (aL g l) (i,k)).af) (by have:=(Yr.at hi hk).af;omega)) ?_;refine wA [3] [7,12,14] [12,1000000,1000001,1000002,1000003] ?_;refine dC [10,13,14] [[(12,.box 107 [vvw (int i),vvw (int k)]),(1000000,.box 102 [vvw (.sl (l.map dx)),vvw (.sl ((aL g l).map b7)),.nst 1000002]),(1000001,.box 35 [.pbox 1000000 0]),(1000002,.nmp (jh (aL g l) (aQ (aL g l) i k)) (br 107 (mC (aL g l) (aQ (aL g l) i k))) none),(1000003,.box 35 [.pbox 1000000 0])],[(12,.box 107 [vvw (int i),vvw (int k)]),(84,.arr 107 (ku (jh (aL g l) (aQ (aL g l) i k)) (mC (aL g l) (aQ (aL g l) i k)) (iB (aL g l) (i,k)))),(1000000,.box 102 [vvw (.sl (l.map dx)),vvw (.sl ((aL g l).map b7)),.nst 1000002]),(1000001,.box 35 [.pbox 1000000 0]),(1000002,.nmp (jh (aL g l) (aQ (aL g l) i k)) (br 107 (mC (aL g l) (aQ (aL g l) i k))) (wg (jh (aL g l) (aQ (aL g l) i k)) (iB (aL g l) (i,k)) (.arr 84))),(1000003,.box 35 [.pbox 1000000 0])],[(12,.box 107 [vvw (int i),vvw (int k)]),(87,.arr 107 ((ku (jh (aL g l) (aQ (aL g l) i k)) (mC (aL g l) (aQ (aL g l) i k)) (iB (aL g l) (i,k)))++[(jD (i,k))])),(1000000,.box 102 [vvw (.sl (l.map dx)),vvw (.sl ((aL g l).map b7)),.nst 1000002]),(1000001,.box 35 [.pbox 1000000 0]),(1000002,.nmp (jh (aL g l) (aQ (aL g l) i k)) (br 107 (mC (aL g l) (aQ (aL g l) i k))) (wg (jh (aL g l) (aQ (aL g l) i k)) (iB (aL g l) (i,k)) .no)),(1000003,.box 35 [.pbox 1000000 0])],[(12,.box 107 [vvw (int i),vvw (int k)]),(1000000,.box 102 [vvw (.sl (l.map dx)),vvw (.sl ((aL g l).map b7)),.nst 1000002]),(1000001,.box 35 [.pbox 1000000 0]),(1000002,.nmp (fZ (jh (aL g l) (aQ (aL g l) i k)) (iB (aL g l) (i,k))) (br 107 (te (jh (aL g l) (aQ (aL g l) i k)) (mC (aL g l) (aQ (aL g l) i k)) (iB (aL g l) (i,k)) ((ku (jh (aL g l) (aQ (aL g l) i k)) (mC (aL g l) (aQ (aL g l) i k)) (iB (aL g l) (i,k)))++[(jD (i,k))]))) none),(1000003,.box 35 [.pbox 1000000 0])]] 15 [(0,[0,1,2]),(1,[0,1,2]),(2,[0,1,2]),(3,[0,1,2]),(5,[0]),(6,[0]),(7,[0]),(8,[0]),(11,[0,1])] [(74,.pbox 1000000 0),(75,.pbox 1000000 0),(76,.pbox 1000000 2),(77,.nst 1000002),(78,vvw (ak (qp (a8 (aL g l) (i,k)).af))),(79,.pbox 1000000 0),(80,.pbox 1000000 0),(81,.pbox 1000000 2),(82,.nst 1000002),(83,vvw (ak (qp (a8 (aL g l) (i,k)).af))),(84,.own 84),(85,vvw (jD (i,k))),(86,vvw (.sl [(jD (i,k))])),(87,.own 87),(7,.pbox 1000003 0),(12,.pbox 12 0),(14,vvw (ak (qp (a8 (aL g l) (i,k)).af)))] (ai (ai (aa J zO J J J) (ai (aa J zO J J J) (ai (aa J zO J J J) (trivial)))) (ai (ai kW (ai kW (ai kW (trivial)))) (ai (ai kW (ai kW (ai kW (trivial)))) (ai (ai (aa J IN J J J) (ai (aa J IN J J J) (ai (aa J IN J J J) (trivial)))) (ai bV (ai (ai (aa J zO J J J) (trivial)) (ai (ai kW (trivial)) (ai (ai kW (trivial)) (ai (ai (aa J IN J J J) (trivial)) (ai bV (ai (ai kW (ai kW (trivial))) (ai bV trivial)))))))))))) (ai (fun X eC dv cZ=>have ZS:X.lookup 83=some (vvw (ak (qp (a8 (aL g l) (i,k)).af))):=(cZ 83 adj).trans rfl;D8 (t:=84) (x:=.tmp 82) (y:=.tmp 83) (key:=(iB (aL g l) (i,k))) J J J J eC Tryz.underlying100 Tryz.underlying9 On ((cZ 82 adj).trans J) J (by simp only[bg,St.ev,ZS];rfl) trivial (tW (aL g l) (aQ (aL g l) i k)) dv J J J ae) (ai (fun X eC dv cZ=>ck (T:=109) (t:=87) (u:=84) (id:=84) (y:=.tmp 86) J J J eC Tryz.underlying109 Wm ((cZ 84 adj).trans J) J (cA (gp ((cZ 86 adj).trans J)) (bO (by rfl))) (by have:=O2 (F:=aL g l) (i:=i) (k:=k) (key:=iB (aL g l) (i,k)) Yr hi hk;simp only[aaE,aaL];omega) (by have:=O2 (F:=aL g l) (i:=i) (k:=k) (key:=iB (aL g l) (i,k)) Yr hi hk;simp only[aaE,aaL];omega) J dv J (Eq.trans (b:=[(12,.box 107 [vvw (int i),vvw (int k)]),(87,.arr 107 ((ku (jh (aL g l) (aQ (aL g l) i k)) (mC (aL g l) (aQ (aL g l) i k)) (iB (aL g l) (i,k)))++[(jD (i,k))])),(1000000,.box 102 [vvw (.sl (l.map dx)),vvw (.sl ((aL g l).map b7)),.nst 1000002]),(1000001,.box 35 [.pbox 1000000 0]),(1000002,.nmp (jh (aL g l) (aQ (aL g l) i k)) (br 107 (mC (aL g l) (aQ (aL g l) i k))) (sS (fun d=>d.stays true 87&&d.stays true 84) (sS (SV.stays true 84) (wg (jh (aL g l) (aQ (aL g l) i k)) (iB (aL g l) (i,k)) (.arr 84))))),(1000003,.box 35 [.pbox 1000000 0])]) J (by rw[AB,AB];rfl)) J ae) (ai (fun X eC dv cZ=>have ZT:X.lookup 78=some (vvw (ak (qp (a8 (aL g l) (i,k)).af))):=(cZ 78 adj).trans rfl;GH (x:=.tmp 77) (y:=.tmp 78) (z:=.tmp 87) (key:=(iB (aL g l) (i,k))) J J eC Tryz.underlying100 Tryz.underlying9 ((cZ 77 adj).trans J) J (by simp only[bg,St.ev,ZT];rfl) ((cZ 87 adj).trans J) J trivial (tW (aL g l) (aQ (aL g l) i k)) dv J J ae) (trivial)))) ?_;refine bM (n:=0) adi ?_;refine bf adi ?_;refine Dn [1] ?_;refine cV (o1:=[(1000000,_),(1000001,_),(1000002,_),(1000003,_)]) ⟨rfl,rfl,rfl,rfl,trivial⟩ ?_
 focus (unfold HO;rw[oe,qY,u6];first|done|rfl)
 refine wA [3] [7] [7,18,20] ?_;refine aw.imp (GJ 20 2 ae J J J J J J J) ?_;refine gV [3] [4] [18,20] ?_;refine ko 89 [(4,_)] [] ae J ⟨.inr ⟨_,_,rfl,rfl,rfl⟩,trivial⟩ trivial ?_;refine GM [5] ?_;refine gz J J J ?_;rotate_left
 all_goals
  first
   | (rw[Jm (mD adh).2 adj,(mD (g:=g) (l:=l) adh).1,(mD (g:=g) (l:=l) adh).2];exact⟨rfl,rfl,rfl⟩)
   | (have hh:=Jk (g:=g) (l:=l) (i:=i) adh adh ax adk;rw[Jm hh.2 adk,hh.1,hh.2];exact⟨rfl,rfl,rfl⟩)
   | (have hh:=Jl (g:=g) (l:=l) (i:=l.length) adh adh ax;rw[O0 hh.2,hh.1,hh.2,Qd];exact⟨by unfold sC Yp;rw[kB];rfl,rfl,rfl⟩)
end Go.Proofs.YtlapahnodhmcpaaGreat
namespace Go.Wf
open Go.Am Go.Wb Go.Wc
structure jj where
 lexeme:Int
 form:aI
 deriving Inhabited,DecidableEq
def ZU (a:jj):List AV:=int a.lexeme :: E4 a.form
def rp (a:jj):AV:=.agg (ZU a)
theorem nn {F:List (List aI)}(hF:rP F){i k:Nat}(hi:i≤F.length)(hk:k≤1000):(aQ F i k).length≤1001000:=by
 have h2:=HN (f:=fun a=>(F.getD a default).length) (B:=1000) i fun a ha=>hF.row _ (aO adh)
 have h4:=hF.n;rw[FK];have:i*1000≤1000*1000:=abR _ adh;omega
def lk (F:List (List aI))(w:List Int)(i k:Nat):List jj:=((aQ F i k).filter fun p=>decide ((a8 F p).af=w)).map fun p=>⟨(p.1:Nat),a8 F p⟩
def eQ (F:List (List aI))(w:List Int):List jj:=lk F w F.length 0
variable {F:List (List aI)}{w:List Int}{i k:Nat}
theorem Rt (h:(a8 F (i,k)).af=w):lk F w i (k+1)=lk F w i k++[⟨(i:Nat),a8 F (i,k)⟩]:=by unfold lk;rw[oe,abG,aaK,abz,if_pos (decide_eq_true h),acf];rfl
theorem UQ (h:¬(a8 F (i,k)).af=w):lk F w i (k+1)=lk F w i k:=by unfold lk;rw[oe,abG,aaK,abz,if_neg (by simpa using h),acf,abW,abe]
theorem Ru (h:k=(F.getD i default).length):lk F w i k=lk F w (i+1) 0:=by unfold lk;rw[tV h]
theorem Jn (F:List (List aI))(w:List Int)(i k:Nat):(lk F w i k).length≤(aQ F i k).length:=by unfold lk;rw[aaA];exact abT _ _
def UR (l:List jj)(c:Nat)(k:Nat):Bool:=(l.take k).all fun a=>yY a.form.cuts c
def u9 (l:List jj)(n:Nat):List Int:=((List.range n).filter fun c=>UR l c l.length).map fun c:Nat=>(c:Int)
def rQ (F:List (List aI))(w:List Int):List Int:=if(eQ F w).length=0 then[] else u9 (eQ F w) (w.length+1)
theorem HP (l:List jj)(n:Nat):(u9 l n).length≤n:=by unfold u9;rw[aaA];exact abb (abT _ _) (by rw[aa1];exact aaD _)
def kj (F:List (List aI))(i k:Nat):List (List Int):=(aQ F i k).foldl (fun o p=>lA o (a8 F p).af) []
def dM (F:List (List aI)):List (List Int):=kj F F.length 0
theorem O3 (F:List (List aI))(i k:Nat):kj F i (k+1)=lA (kj F i k) (a8 F (i,k)).af:=by unfold kj;rw[oe,ab2];rfl
theorem Rv (h:k=(F.getD i default).length):kj F i k=kj F (i+1) 0:=by unfold kj;rw[tV h]
theorem Jo:∀ (l:List (List Int))(x:List Int),(lA l x).length≤l.length+1
 | [],x=>aaD _
 | y :: l, x => by
   have:=Jo l x;unfold lA;split
   · simp only[aaE];omega
   · split
     · omega
     · simp only[aaE];omega
theorem xc:∀ {l:List (List Int)}{x z:List Int},z∈lA l x→z∈l∨z=x
 | [],x,z,h=>.inr (aaY.1 h)
 | y :: l, x, z, h => by
   unfold lA at h;split at h
   · rcases aa3.1 h with h | h
     · exact .inl (by rw[h];exact aaJ)
     · exact(xc h).imp (aaW _) id
   · split at h
     · exact .inl h
     · rcases aa3.1 h with h | h
       · exact .inr h
       · exact .inl h
theorem O4 (F:List (List aI))(i k:Nat):(kj F i k).length≤(aQ F i k).length:=by unfold kj;refine iu (C:=fun l=>(l.foldl (fun o p=>lA o (a8 F p).af) []).length≤l.length) (aaD _) (fun l p ih=>?_) _;rw[ab2,aaM];have:=Jo (l.foldl (fun o p=>lA o (a8 F p).af) []) (a8 F p).af;show(lA _ _).length≤_+1;omega
theorem fU (hF:rP F)(p:Nat×Nat):zS (a8 F p):=by
 unfold a8;rcases aa9 p.1 F.length with h|h
 ·rcases aa9 p.2 (F.getD p.1 default).length with h2|h2
  ·exact hF.form _ (aO h) _ (aO h2)
  ·rw[aax (l:=F.getD p.1 default),abg h2];exact za
 ·rw[aax (l:=F),abg h];show zS (([]:List aI).getD p.2 default);exact za
theorem C6 (hF:rP F)(i k:Nat):∀z∈kj F i k,z.length≤1048576:=by
 unfold kj;refine iu (C:=fun l=>∀z∈l.foldl (fun o p=>lA o (a8 F p).af) [],z.length≤1048576) (fun z hz=>by cases hz) (fun l p ih=>?_) _;rw[ab2];intro z hz;rcases xc (show z∈lA _ _ from hz) with h|rfl
 ·exact ih z h
 ·exact(fU hF p).af
def kf (f:aI):List UInt8×List Int:=(f.cell,f.af)
def qs (a b:List aI):Bool:=decide (a.map kf=b.map kf)
theorem Jp (l:List aI)(k:Nat):kf (l.getD k default)=(l.map kf).getD k (kf default):=by rw[aax,aax,aaI];cases l[k]?<;>rfl
theorem Tb {a b:List aI}(h:a.length≠b.length):qs a b=false:=decide_eq_false fun he=>h (by simpa using congrArg List.length he)
theorem O5 {a b:List aI}{k:Nat}(h:¬((a.getD k default).cell=(b.getD k default).cell∧(a.getD k default).af=(b.getD k default).af)):qs a b=false:=decide_eq_false fun he=>h (by
 have:kf (a.getD k default)=kf (b.getD k default):=by rw[Jp,Jp,he]
 exact⟨congrArg Prod.fst this,congrArg Prod.snd this⟩)
theorem Tc {a b:List aI}{k:Nat}(hl:a.length=b.length)(hk:a.length≤k)(h:∀j,j<k→decide (kf (a.getD j default)=kf (b.getD j default))=true):qs a b=true:=decide_eq_true (by
 refine abJ fun j=>?_
 rw[aaI,aaI];rcases aa9 j a.length with hj|hj
 ·have:=of_decide_eq_true (h j adh);rw[cU hj,cU (show j<b.length by omega)] at this;rw[aaF hj,aaF (show j<b.length by omega)];exact congrArg some this
 ·rw[abg hj,abg adh])
def Td:wx:=⟨⟨[],[],[],[]⟩,[],[]⟩
def C7 (g:aA)(l:List da):wx:=if ji g l=0 then⟨g,l,aL g l⟩ else Td
variable{g:aA}{l:List da}
theorem O6 {e:Int}(h:ji g l=e)(h0:e≠0):C7 g l=Td:=if_neg (by rw[h];exact h0)
theorem C8 (h:ji g l=0):C7 g l=⟨g,l,aL g l⟩:=if_pos h
def og (F F':List (List aI))(n:Nat):List Int:=((List.range n).filter fun i=>!qs (F.getD i default) (F'.getD i default)).map fun i:Nat=>(i:Int)
def C9 (g:aA)(l:List da)(F:List (List aI)):List Int:=if ji g l=0 then og F (aL g l) F.length else[]
theorem Jq {F F':List (List aI)}{n:Nat}(h:qs (F.getD n default) (F'.getD n default)=false):og F F' (n+1)=og F F' n++[(n:Int)]:=by unfold og;rw[abB,abG,aaK,abz,if_pos (by rw[h];rfl),acf];rfl
theorem O7 {F F':List (List aI)}{n:Nat}(h:qs (F.getD n default) (F'.getD n default)=true):og F F' (n+1)=og F F' n:=by unfold og;rw[abB,abG,aaK,abz,if_neg (by rw[h];decide),acf,abW,abe]
theorem Da (F F':List (List aI))(n:Nat):(og F F' n).length≤n:=by unfold og;rw[aaA];exact abb (abT _ _) (by rw[aa1];exact aaD _)
theorem Jr (h:ji g l≠0):C9 g l F=[]:=if_neg h
theorem FN (h:ji g l=0):C9 g l F=og F (aL g l) F.length:=if_pos h
theorem By (h:ji g l=0):l.length≤64:=by
 rcases aa9 64 l.length with h1|h1
 ·rw[(mD h1).2] at h;cases h
 ·exact h1
theorem Rw {a b:jj}(h:a.lexeme=b.lexeme)(h2:a.form=b.form):a=b:=by obtain⟨x,f⟩:=a;obtain⟨y,g⟩:=b;exact congr (congrArg jj.mk h) h2
section
variable {α:Type} [DecidableEq α] [Inhabited α]{a b:List α}
theorem Ry (h:a.length≠b.length):decide (a=b)=false:=decide_eq_false fun he=>h (by rw[he])
theorem O8 {k:Nat}(h:¬a.getD k default=b.getD k default):decide (a=b)=false:=decide_eq_false fun he=>h (by rw[he])
theorem Rz {k:Nat}(hl:a.length=b.length)(hk:a.length≤k)(h:∀j,j<k→decide (a.getD j default=b.getD j default)=true):decide (a=b)=true:=decide_eq_true (by
 refine ac0 hl fun j h1 h2=>?_
 have:=of_decide_eq_true (h j adh);rwa [cU h1,cU h2] at this)
end
end Go.Wf
namespace Go.Proofs.YtlapahnodhmcpaaGreat
open Go.Am Go.Wb Go.Wc Go.Wf Go.We
variable{g:aA}
theorem pe {x:da}(hg:mB g)(hw:x.lemma_.length≤1099511627776):aV Tryz.prog 46 [cD g,ak x.class_,ints x.lemma_] (.p (.tup [b7 (fw g x.class_ x.lemma_),int (c5 g x.class_ x.lemma_)])):=FE hg hw
theorem ZV:QK Tryz.prog 13 Tryz.f13.ntmps 4 41 6 5 6 (Tryz.f13.body.getD .skip):=⟨Tryz.f13,Tryz.func13,rfl,rfl,rfl,adi,QX,QW⟩
theorem Bz {l:List da}(hg:mB g)(hl:l.length≤1048576)(hL:∀x∈l,x.lemma_.length≤1048576):aV Tryz.prog 13 [cD g,.sl (l.map dx)] (.p (.tup [La (C7 g l),int (u7 g l),int (ji g l)])):=by
 refine wm ZV (aaz J) fun w0 M0 ae=>?_
 refine pO [2,9,3003] [1,2,4,13] [4] ?_ ?_<;>intro h1;refine wA [3] [4] [4] ?_;refine oP J (ar (aK J V8 V7 J J J) J) ?_;refine wZ [7] ?_;refine uS J J J ?_;rotate_left;refine wA [14] [1,2,4,7] [4,7] ?_;refine bN 7 5 40 46 41 ae J J J J ?_;refine gV [5] [1,2,4,7,8] [4,7,40] ?_;refine lr (fun zl zo zm zs=>∃i:Nat,zm=l.length-i∧(i≤l.length)∧(∀j,j<i→decide (c5 g (l.getD j default).class_ (l.getD j default).lemma_=0)=true)∧zs=eV 51 [(8,vvw (int i))] zl [(7,.box 41 [vvw (.sl (g.sets.map fh)),vvw (.sl (g.rules.map aZ)),vvw (.sl (g.classes.map bj)),vvw (strs g.order),vvw (.sl (l.map dx)),.own 40]),(40,.arr 46 ((aL g (l.take i)).map b7))] zo) ?_ ?_;exact⟨_,0,rfl,aaG _,fun j hj=>absurd hj adh,rfl⟩;rintro zm zs ⟨i,rfl,aY,ax,rfl⟩;refine wS [5,3003] [1,2,4,7,8,21] [4,7,40] ?_ ?_<;>intro h2;refine wA [2006,6003,6004,2] [1,2,4,7,8,25,30,35] [4,7,40] ?_;refine oF J J J J J J J (pe (x:=(l.getD i default)) hg (by have:=hL _ (aO (show i<l.length by omega));omega)) ?_;refine wS [3014] [1,2,4,7,8,9,10,40] [4,7,40] ?_ ?_<;>intro h3;refine wA [3] [4,8,10] [4] ?_;refine oP J (ar (aK J V8 V7 J J J) J) ?_;refine wZ [14] ?_;refine uS J J J ?_;rotate_left;refine wZ [7,5000] ?_;refine oS J (step_append J J J J Tryz.underlying39 Wa J J ae (cA J (bO (by rfl))) (by rw[aaA,kB,aaO];simp only[aaE,aaL];omega) (by rw[aaA,kB,aaO];simp only[aaE,aaL];omega)) J ?_;refine wA [7,9002] [1,2,4,7,8] [4,7,40] ?_;exact⟨_,⟨i+1,rfl,adh,e6 ax (decide_eq_true adh),by rw[zb adh,aaK];rfl⟩,adh⟩;refine wA [7] [4,7] [4,7,40] ?_;refine aD 51 [(4,_),(7,_)] [(4,_)] ae J ⟨.inl J,.inr ⟨_,_,rfl,rfl,rfl⟩,trivial⟩ ⟨rfl,trivial⟩ ?_;refine oJ [8] ?_;refine uS J J J ?_;rotate_left
 all_goals
  first
   | (rw[O6 (mD adh).2 adj,(mD (g:=g) (l:=l) adh).1,(mD (g:=g) (l:=l) adh).2];exact⟨rfl,rfl,rfl⟩)
   | (have hh:=Jk (g:=g) (l:=l) (i:=i) adh adh ax adk;rw[O6 hh.2 adk,hh.1,hh.2];exact⟨rfl,rfl,rfl⟩)
   | (have hh:=Jl (g:=g) (l:=l) (i:=i) adh adh ax;rw[C8 hh.2,hh.1,hh.2,aa2 adh];exact⟨rfl,rfl,rfl⟩)
abbrev ZW:=dT 4 Tryz.func23
variable{m:wx}
theorem PT {w:List Int}(hF:rP m.f)(hw:w.length≤1099511627776):aV Tryz.prog 23 [La m,ints w] (.fresh 69 ((eQ m.f w).map rp)):=by
 refine cN ZW fun w0 M0 ae=>?_
 refine db [2,1005,9] [1,2,5,6] [5] ?_;refine lp (fun zm zs=>∃i:Nat,zm=m.f.length-i∧(i≤m.f.length)∧zs=⟨50,[(1,vvw (ints w)),(2,vvw (UH m)),(5,.own 5),(6,vvw (int i))],[(5,.arr 69 ((lk m.f w i 0).map rp))]⟩) ?_ ?_;exact⟨_,0,rfl,aaG _,rfl⟩;rintro zm zs ⟨i,rfl,aY,rfl⟩;have hfn:=hF.n;have hrow:=fun h:i<m.f.length=>hF.row (m.f.getD i default) (aO h)
 refine wS [6,3003] [1,2,5,6,12] [5] ?_ ?_<;>intro h1;refine wA [11] [1,2,5,6,7] [5] ?_;refine lr (fun zl zo zm zs=>∃k:Nat,zm=(m.f.getD i default).length-k∧(k≤(m.f.getD i default).length)∧zs=eV 50 [(7,vvw (int k))] zl [(5,.arr 69 ((lk m.f w i k).map rp))] zo) ?_ ?_;exact⟨_,0,rfl,aaG _,rfl⟩;rintro zm zs ⟨k,rfl,gi,rfl⟩;have hrw:=hrow adh;have hb:=abb (Jn m.f w i k) (nn hF adh adh);refine wS [7,1,3003] [1,2,5,6,7,22] [5] ?_ ?_<;>intro h2;refine wA [10,2,3] [1,2,5,6,7,33,34] [5] ?_;refine oC J J J J (fu (a:=(a8 m.f (i,k)).af) (b:=w) (by have:=(fU hF (i,k)).af;omega) hw) ?_;refine wS [3002] [1,2,5,6,7,35] [5] ?_ ?_<;>intro h3;refine wA [7,2,2,1000,6,9002] [1,2,5,6,7] [5] ?_;rotate_left;refine wA [6,9002] [1,2,5,6,7] [5] ?_;rotate_left;refine wA [9,9002] [1,2,5,6] [5] ?_;obtain rfl:k=(m.f.getD i default).length:=adh;exact⟨_,⟨i+1,rfl,adh,by rw[←Ru J];rfl⟩,adh⟩;refine wZ [8013] ?_;rw[show i=m.f.length by omega];rfl
 all_goals
  exact⟨_,⟨k+1,rfl,adh,by first|(rw[Rt adk,aaK];rfl)|(rw[UQ adk];rfl)⟩,adh⟩
abbrev ZX:=dT 2 Tryz.func34
theorem BA (hF:rP m.f):aV Tryz.prog 34 [La m] (.p (nC (dM m.f))):=by
 refine cN ZX fun w0 M0 ae=>?_
 refine db [2,5] [1] [] ?_;refine oP J (ar (kQ J J) J) ?_;refine wA [9] [1,3,4] [] ?_;refine lp (fun zm zs=>∃i:Nat,zm=m.f.length-i∧(i≤m.f.length)∧zs=⟨35,[(1,vvw (UH m)),(3,vvw (nC (kj m.f i 0))),(4,vvw (int i))],[]⟩) ?_ ?_;exact⟨_,0,rfl,aaG _,rfl⟩;rintro zm zs ⟨i,rfl,aY,rfl⟩;have hfn:=hF.n;have hrow:=fun h:i<m.f.length=>hF.row (m.f.getD i default) (aO h)
 refine wS [6,3003] [1,3,4,10] [] ?_ ?_<;>intro h1;refine wA [11] [1,3,4,5] [] ?_;refine lr (fun zl zo zm zs=>∃k:Nat,zm=(m.f.getD i default).length-k∧(k≤(m.f.getD i default).length)∧zs=eV 35 [(3,vvw (nC (kj m.f i k))),(5,vvw (int k))] zl [] zo) ?_ ?_;exact⟨_,0,rfl,aaG _,rfl⟩;rintro zm zs ⟨k,rfl,gi,rfl⟩;have hrw:=hrow adh;have hb:=abb (O4 m.f i k) (nn hF adh adh);refine wS [7,1,3003] [1,3,4,5,20] [] ?_ ?_<;>intro h2;refine wA [10,2,2] [1,4,5,23,32] [] ?_;refine oN J J J J J (HH (l:=kj m.f i k) (x:=(a8 m.f (i,k)).af) adh (fun z hz=>abb (C6 hF i k z hz) adj) (by have:=(fU hF (i,k)).af;omega)) ?_;refine wA [6,9002] [1,3,4,5] [] ?_;exact⟨_,⟨k+1,rfl,adh,by rw[O3];rfl⟩,adh⟩;refine wA [9,9002] [1,3,4] [] ?_;obtain rfl:k=(m.f.getD i default).length:=adh;exact⟨_,⟨i+1,rfl,adh,by rw[←Rv J];rfl⟩,adh⟩;refine wZ [8013] ?_;rw[show i=m.f.length by omega];rfl
abbrev ZY:=dT 4 Tryz.func40
theorem FO {a b:List aI}(ha:a.length≤1000)(hb:b.length≤1000)(hA:∀x∈a,zS x)(hB:∀x∈b,zS x):au Tryz.prog 40 [b7 a,b7 b] (.p (bool (qs a b))):=by
 refine cF ZY fun w0 M0 ae=>?_
 refine pO [9,1,3003] [0,1,10] [] ?_ ?_<;>intro h1;refine wZ [8008] ?_;rotate_left;refine wA [10] [0,1,5] [] ?_;refine lr (fun zl zo zm zs=>∃k:Nat,zm=a.length-k∧(k≤a.length)∧(∀j,j<k→decide (kf (a.getD j default)=kf (b.getD j default))=true)∧zs=eV 42 [(5,vvw (int k))] zl [] zo) ?_ ?_;exact⟨_,0,rfl,aaG _,fun j hj=>absurd hj adh,rfl⟩;rintro zm zs ⟨k,rfl,aY,ax,rfl⟩;refine wS [5,3003] [0,1,5,14] [] ?_ ?_<;>intro h2;refine wS [2006,6002,6004,6002,7001] [0,1,5,28] [] ?_ ?_<;>intro h3';refine wZ [8027] ?_;rotate_left;refine wA [6002,6004,2] [0,1,5,28,33,38] [] ?_;refine oE J J J J J J (fu (a:=(a.getD k default).af) (b:=(b.getD k default).af) (by have:=(hA _ (aO (show k<a.length by omega))).af;omega) (by have:=(hB _ (aO (show k<b.length by omega))).af;omega)) ?_;refine wS [3004] [0,1,5,41] [] ?_ ?_<;>intro h4;refine wZ [8012] ?_;rotate_left;refine wA [6,9002] [0,1,5] [] ?_;exact⟨_,⟨k+1,rfl,adh,e6 ax (decide_eq_true (by unfold kf;simp_all)),rfl⟩,adh⟩;refine wZ [8012] ?_;rotate_left
 all_goals
  first|(rw[Tb adh];done)|(rw[Tc (k:=k) adh adh ax];done)|(rw[O5 (k:=k) (by simp_all)];done)
theorem ZZ:Gd Tryz.prog 38 Tryz.f38.ntmps 4 5 (Tryz.f38.body.getD .skip):=⟨Tryz.f38,Tryz.func38,rfl,rfl,rfl,adi⟩
theorem zT (hg:mB g)(hl:m.l.length≤1048576)(hL:∀x∈m.l,x.lemma_.length≤1048576)(hF:rP m.f)(hm:m.f.length=m.l.length):aV Tryz.prog 38 [La m,cD g] (.p (.tup [ints (C9 g m.l m.f),int (ji g m.l)])):=by
 refine dS ZZ (aaz J) fun w0 M0 ae=>?_
 refine db [2,0,9] [2,12,14] [] ?_;refine oN J J J J J (Bz hg hl hL) ?_;refine wA [12] [2,6,8] [6] ?_;refine aD 46 [(2,_),(6,_),(8,_)] [] ae J ⟨.inl J,.inr ⟨_,_,rfl,rfl,rfl⟩,.inl J,trivial⟩ trivial ?_;refine Ve [3005] [2,6,8,20] [] ?_ ?_<;>intro h1;refine wZ [10] ?_;refine b9 J J ?_;rotate_left;refine wA [1005,9] [2,6,9,10] [9] ?_;have hz:ji g m.l=0:=by simp_all
 have hlen:m.l.length≤64:=By hz;have hmf:(C7 g m.l).f=aL g m.l:=by rw[C8 hz]
 have X4:rP (C7 g m.l).f:=by rw[hmf];exact qq hg adh
 have hfl:(C7 g m.l).f.length=m.f.length:=by rw[hmf,kB];omega
 refine lr (fun zl zo zm zs=>∃i:Nat,zm=m.f.length-i∧(i≤m.f.length)∧zs=eV 46 [(10,vvw (int i))] zl [(9,.arr 3 ((og m.f (C7 g m.l).f i).map int))] zo) ?_ ?_;exact⟨_,0,rfl,aaG _,rfl⟩;rintro zm zs ⟨i,rfl,aY,rfl⟩;have hcl:=Da m.f (C7 g m.l).f i;refine wS [6,3003] [2,6,9,10,26] [9] ?_ ?_<;>intro h2;refine wA [2006,6003,6004,1] [2,6,9,10,33,38] [9] ?_;refine oE J J J J J J (FO (a:=m.f.getD i default) (b:=(C7 g m.l).f.getD i default) (hF.row _ (aO adh)) (X4.row _ (aO adh)) (hF.form _ (aO adh)) (X4.form _ (aO adh))) ?_;refine wS [3003] [2,6,9,10,40] [9] ?_ ?_<;>intro h3;refine wA [4,1000,6,9002] [2,6,9,10] [9] ?_;rotate_left;refine wA [6,9002] [2,6,9,10] [9] ?_;rotate_left;refine wZ [14] ?_;refine b9 J J ?_;rotate_left
 all_goals first
  | (
    first|(rw[Jr adk];exact⟨rfl,rfl⟩)|(rw[FN hz,hz,←hmf,show i=m.f.length by omega];exact⟨rfl,rfl⟩);done)
  | (
    exact⟨_,⟨i+1,rfl,adh,by first|(rw[Jq adk,aaK];rfl)|(rw[O7 adk];rfl)⟩,adh⟩;done)
abbrev Z0:=dT 4 Tryz.func21
theorem Db {a b:List jj}(ha:a.length≤1099511627776)(hb:b.length≤1099511627776)(hA:∀x∈a,zS x.form)(hB:∀x∈b,zS x.form):au Tryz.prog 21 [.sl (a.map rp),.sl (b.map rp)] (.p (bool (decide (a=b)))):=by
 refine cF Z0 fun w0 M0 ae=>?_
 refine pO [9,1,3003] [0,1,10] [] ?_ ?_<;>intro h1;refine wZ [8008] ?_;rotate_left;refine wA [10] [0,1,5] [] ?_;refine lr (fun zl zo zm zs=>∃k:Nat,zm=a.length-k∧(k≤a.length)∧(∀j,j<k→decide (a.getD j default=b.getD j default)=true)∧zs=eV 42 [(5,vvw (int k))] zl [] zo) ?_ ?_;exact⟨_,0,rfl,aaG _,fun j hj=>absurd hj adh,rfl⟩;rintro zm zs ⟨k,rfl,aY,ax,rfl⟩;refine wS [5,3003] [0,1,5,14] [] ?_ ?_<;>intro h2;refine wS [2006,6002,6004,7004] [0,1,5,28] [] ?_ ?_<;>intro h3';refine wZ [8027] ?_;rotate_left;refine wA [6002,6004,2] [0,1,5,28,33,38] [] ?_;refine oE J J J J J J (rN (f:=(a.getD k default).form) (g:=(b.getD k default).form) (hA _ (aO adh)) (hB _ (aO adh))) ?_;refine wS [3004] [0,1,5,41] [] ?_ ?_<;>intro h4;refine wZ [8012] ?_;rotate_left;refine wA [6,9002] [0,1,5] [] ?_;exact⟨_,⟨k+1,rfl,adh,e6 ax (decide_eq_true (Rw (by simp_all) (by simp_all))),rfl⟩,adh⟩;refine wZ [8012] ?_;rotate_left
 all_goals
  first|(rw[Ry adh];done)|(rw[Rz (k:=k) adh adh ax];done)|(rw[O8 (k:=k) (fun he=>by simp_all)];done)
end Go.Proofs.YtlapahnodhmcpaaGreat
namespace Go.Wf
open Go.Am Go.Wb Go.Wc
def RA (F:List (List aI))(i:Int):List aI:=if i<0∨(F.length:Int)≤i then[] else F.getD i.toNat default
variable{F:List (List aI)}
theorem US {i:Int}(h:i<0∨(F.length:Int)≤i):RA F i=[]:=if_pos h
theorem RB {i:Int}(h:¬(i<0∨(F.length:Int)≤i)):RA F i=F.getD i.toNat default:=if_neg h
noncomputable def cw (F:List (List aI))(w:List Int):List (Nat×Nat):=atKey F (aQ F F.length 0) (Ld (qp w))
noncomputable def ke (F:List (List aI))(w:List Int):List jj:=(cw F w).map fun p=>⟨(p.1:Nat),a8 F p⟩
theorem FP {p:Nat×Nat}(h:p∈aQ F F.length 0):p.1<F.length∧p.2<(F.getD p.1 default).length:=by unfold aQ at h;rw[List.range_zero,abW,abe,aca] at h;obtain⟨a,ha,h⟩:=h;obtain⟨b,hb,rfl⟩:=aa7.1 h;exact⟨aba.1 ha,aba.1 hb⟩
theorem FQ {w:List Int}{p:Nat×Nat}(h:p∈cw F w):p.1<F.length∧p.2<(F.getD p.1 default).length:=by unfold cw atKey at h;exact FP (abA.1 h).1
theorem FR (hF:rP F)(w:List Int):(cw F w).length≤1001000:=by refine abb ?_ (nn hF (aaD F.length) (aaG _));unfold cw atKey;exact abT _ _
theorem FT (F:List (List aI))(w:List Int):(sY (.sc (.slice none 0 0)) (jh F (aQ F F.length 0)) ((mC F (aQ F F.length 0)).map AV.sl) (Ld (qp w))).norm=.sl ((cw F w).map jD):=by rw[OY (mQ _ _),y9];rfl
theorem Js {w:List Int}{k:Nat}(h:k<(cw F w).length):(ke F w).getD k default=⟨(((cw F w).getD k default).1:Nat),a8 F ((cw F w).getD k default)⟩:=by unfold ke;rw[aax,aaI,aaF h,aax,aaF h];rfl
theorem FU (F:List (List aI))(w:List Int):(ke F w).length=(cw F w).length:=aaA _
end Go.Wf
namespace Go.Proofs.YtlapahnodhmcpaaGreat
open Go.Am Go.Wb Go.Wc Go.Wf Go.We
abbrev Z1:=dT 2 Tryz.func18
variable{l:List da}{F:List (List aI)}
theorem Lf (hl:l.length≤1099511627776):aV Tryz.prog 18 [sC l F] (.p (int l.length)):=by
 refine cN Z1 fun w0 M0 ae=>?_
 refine AD [8,2,8004] ?_;rfl
abbrev Z2:=dT 4 Tryz.func16
theorem zU {i:Int}(hF:rP F):aV Tryz.prog 16 [sC l F,int i] (.p (b7 (RA F i))):=by
 have Yq:=hF.n;have hrow:=fun h:i.toNat<F.length=>hF.row (F.getD i.toNat default) (aO h)
 refine cN Z2 fun w0 M0 ae=>?_
 refine pO [4011] [0,1,10] [] ?_ ?_<;>intro h1';refine wZ [8018] ?_;rotate_left;refine wS [2,2,3004] [0,1,18] [] ?_ ?_<;>intro h2;refine wZ [8008] ?_;rotate_left;refine wA [1005,6,3,1,4] [5,25,26,27] [5] ?_;have hrw:=hrow adh;refine lr (fun zl zo zm zs=>∃k:Nat,zm=(F.getD i.toNat default).length-k∧(k≤(F.getD i.toNat default).length)∧zs=eV 38 [(27,vvw (int k))] zl [(5,.arr 64 (((F.getD i.toNat default).take k).map gF))] zo) ?_ ?_;exact⟨_,0,rfl,aaG _,rfl⟩;rintro zm zs ⟨k,rfl,aY,rfl⟩;refine wS [3006] [5,25,26,27,28] [5] ?_ ?_<;>intro h3;refine wA [7,8] [25,26,27,31,32] [5] ?_;refine oN J J J J J (FI (fU hF (i.toNat,k))) ?_;refine wA [0,1000,5,9002] [5,25,26,27] [5] ?_;exact⟨_,⟨k+1,rfl,adh,by rw[take_succ adh,aaK];rfl⟩,adh⟩;refine wA [7] [5] [5] ?_;refine aD 38 [(5,_)] [] ae J ⟨.inr ⟨_,_,rfl,rfl,rfl⟩,trivial⟩ trivial ?_;refine oJ [8006] ?_;rotate_left
 all_goals
  first|(rw[US adh];first|done|rfl)|(rw[RB adh,show k=(F.getD i.toNat default).length by omega,abK];first|done|rfl)
abbrev Z3:=dT 4 Tryz.func73
theorem FV {f g:aI}(hf:zS f)(hg:zS g):au Tryz.prog 73 [gF f,gF g] (.p (bool (decide (kf f=kf g)))):=by
 have hf1:=hf.af;have hg1:=hg.af;refine cF Z3 fun w0 M0 ae=>?_
 refine pO [2,0,9,4001] [2,3,10] [] ?_ ?_<;>intro h1';refine wA [4] [10,12,14] [] ?_;refine oC J J J J (qk adh adh) ?_;refine wZ [8005] ?_;rotate_left;refine wZ [8010] ?_;rotate_left
 all_goals
  unfold kf;simp_all
abbrev Z4:=dT 6 Tryz.func72
theorem Dc {a b:List aI}(ha:a.length≤1000)(hb:b.length≤1000)(hA:∀x∈a,zS x)(hB:∀x∈b,zS x):aV Tryz.prog 72 [b7 a,b7 b,.clo 73 []] (.p (bool (qs a b))):=by
 refine cN Z4 fun w0 M0 ae=>?_
 refine pO [9,1,3003] [0,1,2,14] [] ?_ ?_<;>intro h1;refine wZ [8008] ?_;rotate_left;refine wA [7,4] [1,2,15,16,17] [] ?_;refine lr (fun zl zo zm zs=>∃k:Nat,zm=a.length-k∧(k≤a.length)∧(∀j,j<k→decide (kf (a.getD j default)=kf (b.getD j default))=true)∧zs=eV 32 [(17,vvw (int k))] zl [] zo) ?_ ?_;exact⟨_,0,rfl,aaG _,fun j hj=>absurd hj adh,rfl⟩;rintro zm zs ⟨k,rfl,aY,ax,rfl⟩;refine wS [3006] [1,2,15,16,17,18] [] ?_ ?_<;>intro h2;refine wA [8,10,10] [1,2,15,16,17,26,27,28] [] ?_;refine oC J J J J (FV (hA _ (aO (show k<a.length by omega))) (hB _ (aO (show k<b.length by omega)))) ?_;refine wS [3003] [1,2,15,16,17,30] [] ?_ ?_<;>intro h3;refine wZ [8012] ?_;rotate_left;refine wA [5,9002] [1,2,15,16,17] [] ?_;exact⟨_,⟨k+1,rfl,adh,e6 ax (by simp_all),rfl⟩,adh⟩;refine wZ [8012] ?_;rotate_left
 all_goals
  first|(rw[Tb adh];done)|(rw[Tc (k:=k) adh adh ax];done)|(rw[O5 (k:=k) (by unfold kf at *;simp_all)];done)
variable{g:aA}
theorem BB (hg:mB g)(hl:l.length≤1048576)(hL:∀x∈l,x.lemma_.length≤1048576)(h:ji g l≠0):aV Tryz.prog 12 [cD g,.sl (l.map dx)] (.p (.tup [.sc (.pointer none),int (u7 g l),int (ji g l)])):=by have:=FM hg hl hL;rwa [show OZ g l=.sc (.pointer none) from if_neg h] at this
theorem vd (hg:mB g)(hl:l.length≤1048576)(hL:∀x∈l,x.lemma_.length≤1048576)(h:ji g l=0):aV Tryz.prog 12 [cD g,.sl (l.map dx)] (.p (.tup [sC l (aL g l),int (u7 g l),int 0])):=by have:=FM hg hl hL;rwa [show OZ g l=sC l (aL g l) from if_pos h,h] at this
theorem X5:Gd Tryz.prog 37 Tryz.f37.ntmps 4 5 (Tryz.f37.body.getD .skip):=⟨Tryz.f37,Tryz.func37,rfl,rfl,rfl,adi⟩
theorem zV (hg:mB g)(hl:l.length≤1048576)(hL:∀x∈l,x.lemma_.length≤1048576)(h:ji g l≠0):aV Tryz.prog 37 [sC l F,cD g] (.p (.tup [.sl [],int (ji g l)])):=by
 refine dS X5 (aaz J) fun w0 M0 ae=>?_
 refine db [2,2005,6002,2] [0,13,17] [] ?_;refine oF J J J J J J J (BB hg hl hL h) ?_;refine wA [13] [0,6,8,22] [] ?_;refine oP J (bA (b':=true) (dD J J J) (by simp[h])) ?_;refine wZ [12] ?_;refine b9 J J ?_;exact⟨rfl,rfl⟩
theorem zW (hg:mB g)(hl:l.length≤1048576)(hL:∀x∈l,x.lemma_.length≤1048576)(hF:rP F)(hn:F.length=l.length)(h:ji g l=0):aV Tryz.prog 37 [sC l F,cD g] (.p (.tup [ints (og F (aL g l) F.length),int 0])):=by
 have hlen:=By h;have X4:rP (aL g l):=qq hg adh;have hfl:=kB (g:=g) l;refine dS X5 (aaz J) fun w0 M0 ae=>?_
 refine db [2,2005,6002,2] [0,13,17] [] ?_;refine oF J J J J J J J (vd hg hl hL h) ?_;refine wA [13] [0,6,8,22] [] ?_;refine oP J (bA (b':=false) (dD J J J) (rfl)) ?_;refine wA [1007,6,2,4] [6,9,28,29,30] [9] ?_;refine lr (fun zl zo zm zs=>∃i:Nat,zm=F.length-i∧(i≤F.length)∧zs=eV 51 [(30,vvw (int i))] zl [(9,.arr 3 ((og F (aL g l) i).map int))] zo) ?_ ?_;exact⟨_,0,rfl,aaG _,rfl⟩;rintro zm zs ⟨i,rfl,aY,rfl⟩;have hcl:=Da F (aL g l) i;refine wS [3006] [6,9,28,29,30,31] [9] ?_ ?_<;>intro h1;refine wA [8,9,3,1] [6,9,10,28,29,30,35,42] [9] ?_;refine oN J J J J J (Dc (a:=F.getD i default) (b:=(aL g l).getD i default) (hF.row _ (aO adh)) (X4.row _ (aO adh)) (hF.form _ (aO adh)) (X4.form _ (aO adh))) ?_;refine wS [3003] [6,9,10,28,29,30,44] [9] ?_ ?_<;>intro h2;refine wA [4,1000,5,9002] [6,9,28,29,30] [9] ?_;rotate_left;refine wA [5,9002] [6,9,28,29,30] [9] ?_;rotate_left;refine wA [7] [9] [9] ?_;refine aD 51 [(9,_)] [] ae J ⟨.inr ⟨_,_,rfl,rfl,rfl⟩,trivial⟩ trivial ?_;refine oJ [7] ?_;refine b9 J J ?_;rw[show i=F.length by omega];exact⟨rfl,rfl⟩
 all_goals
  exact⟨_,⟨i+1,rfl,adh,by first|(rw[Jq (by simp_all),aaK];rfl)|(rw[O7 (by simp_all)];rfl)⟩,adh⟩
theorem Dd (hg:mB g)(hl:l.length≤1048576)(hL:∀x∈l,x.lemma_.length≤1048576)(hF:rP F)(hn:F.length=l.length):aV Tryz.prog 37 [sC l F,cD g] (.p (.tup [ints (C9 g l F),int (ji g l)])):=by
 by_cases h:ji g l=0
 ·rw[FN h,h];exact zW hg hl hL hF hn h
 ·rw[Jr h];exact zV hg hl hL h
abbrev Z5:=dT 4 Tryz.func22
theorem tX {w:List Int}(hF:rP F)(hw:w.length≤1048576):aV Tryz.prog 22 [sC l F,ints w] (.p (.sl ((ke F w).map rp))):=by
 have hal:=FR hF w;have Yq:=hF.n;have hpl:=FU F w;refine cN Z5 fun w0 M0 ae=>?_
 refine db [1007,2004,6001,3] [0,5,11,12] [5] ?_;refine oE J J J J J J (u5 (w:=w) adh) ?_;refine oD J J J (ar (xp J Tryz.underlying100 Tryz.underlying9 On J J J trivial (tW F (aQ F F.length 0)) J) (FT F w)) ?_;refine wA [6000,4] [0,5,14,15,16] [5] ?_;refine lr (fun zl zo zm zs=>∃k:Nat,zm=(cw F w).length-k∧(k≤(cw F w).length)∧zs=eV 41 [(16,vvw (int k))] zl [(5,.arr 69 (((ke F w).take k).map rp))] zo) ?_ ?_;exact⟨_,0,rfl,aaG _,rfl⟩;rintro zm zs ⟨k,rfl,aY,rfl⟩;refine wS [3006] [0,5,14,15,16,17] [5] ?_ ?_<;>intro h1;have hpm:=FQ (w:=w) (aO (show k<(cw F w).length by omega));refine wA [7,5] [0,5,7,14,15,16] [5,7] ?_;refine dC [18] [[(5,.arr 69 (((ke F w).take k).map rp)),(7,.box 107 [vvw (int ((cw F w).getD k default).1),vvw (int ((cw F w).getD k default).2)])],[(7,.box 107 [vvw (int ((cw F w).getD k default).1),vvw (int ((cw F w).getD k default).2)]),(38,.arr 69 (((ke F w).take k).map rp++[rp (⟨(((cw F w).getD k default).1:Nat),a8 F ((cw F w).getD k default)⟩:jj)]))]] 19 [(0,[0]),(1,[0]),(2,[0]),(7,[0]),(8,[0]),(11,[0]),(12,[0])] [(20,.own 5),(21,.pbox 7 0),(22,vvw (int ((cw F w).getD k default).1)),(23,vvw (sC l F)),(24,vvw (sC l F)),(25,vvw (.pc (Yp l F) 1)),(26,vvw (.sl (F.map b7))),(27,.pbox 7 0),(28,vvw (int ((cw F w).getD k default).1)),(29,vvw (.pc [b7 (F.getD ((cw F w).getD k default).1 default)] 0)),(30,vvw (b7 (F.getD ((cw F w).getD k default).1 default))),(31,.pbox 7 1),(32,vvw (int ((cw F w).getD k default).2)),(33,vvw (.pc (E4 (a8 F ((cw F w).getD k default))) 0)),(34,vvw (gF (a8 F ((cw F w).getD k default)))),(35,vvw (gF (a8 F ((cw F w).getD k default)))),(36,vvw (rp (⟨(((cw F w).getD k default).1:Nat),a8 F ((cw F w).getD k default)⟩:jj))),(37,vvw (.sl [rp (⟨(((cw F w).getD k default).1:Nat),a8 F ((cw F w).getD k default)⟩:jj)])),(38,.own 38),(0,vvw (sC l F)),(5,.own 5),(7,.pbox 7 0),(14,vvw (.sl ((cw F w).map jD))),(15,vvw (int (cw F w).length)),(16,vvw (int k))] (ai (ai kW (trivial)) (ai (ai kW (trivial)) (ai (ai (aa J SD J J J) (trivial)) (ai bV (ai bV (ai bV (ai bV (ai (ai kW (trivial)) (ai (ai (aa J SD J J J) (trivial)) (ai (fun _=>(j5 (f:=b7) (l:=F) (i:=((cw F w).getD k default).1) (z:=(F.getD ((cw F w).getD k default).1 default)) J J Tryz.underlying39 V9 J J adh (fun _=>rfl))) (ai bV (ai (ai kW (trivial)) (ai (ai (aa J SD J J J) (trivial)) (ai (fun _=>(j5 (f:=gF) (l:=(F.getD ((cw F w).getD k default).1 default)) (i:=((cw F w).getD k default).2) (z:=a8 F ((cw F w).getD k default)) J J Tryz.underlying46 He J J adh (fun _=>rfl))) (ai (fun _=>(ar (aF J QY He J (aaz J)) J)) (ai (fun _=>(bI J J J J (FI (fU hF ((cw F w).getD k default))) ae)) (ai bV (ai bV trivial)))))))))))))))))) (ai (fun X eC dv cZ=>ck (T:=55) (t:=38) (u:=20) (id:=5) (y:=.tmp 37) J J J eC Tryz.underlying55 Wg ((cZ 20 adj).trans J) J (cA (gp ((cZ 37 adj).trans J)) (bO (by rfl))) (by rw[aaA,aaO];simp only[aaE,aaL];omega) (by rw[aaA,aaO];simp only[aaE,aaL];omega) J dv J J J ae) (trivial)) ?_;refine bM (n:=1) adi ?_;refine xe 19 ?_;refine bf adi ?_;refine hZ [2] [0,5,14,15,16] [38] ?_;refine aw.imp (td 5 5 ae J J J J) ?_;refine gV [1,9002] [0,5,14,15,16] [5] ?_;exact⟨_,⟨k+1,rfl,adh,by rw[take_succ adh,aaK,Js adh];rfl⟩,adh⟩;refine wA [7] [5] [5] ?_;refine aD 41 [(5,_)] [] ae J ⟨.inr ⟨_,_,rfl,rfl,rfl⟩,trivial⟩ trivial ?_;refine oJ [8006] ?_;rw[show k=(ke F w).length by omega,abK]
end Go.Proofs.YtlapahnodhmcpaaGreat
namespace Go.Wf
open Go.Am Go.Wb Go.Wc
theorem RC (l:List Int)(x:Int):l.any (fun y=>decide (x=y))=yY l x:=by unfold yY;congr 1;funext y;exact decide_eq_decide.2 ⟨Eq.symm,Eq.symm⟩
theorem ve {F:List (List aI)}{w:List Int}{k:Nat}(h:k<(cw F w).length):((ke F w).getD k default).form=a8 F ((cw F w).getD k default):=by rw[Js h]
def cJ (l:List jj)(k:Nat):List Int:=if k=0 then[] else(l.getD 0 default).form.cuts.filter fun c=>(l.take k).all fun a=>yY a.form.cuts c
theorem O9 {l:List Int}{x:Int}(h:x∈l):yY l x=true:=abk.2 ⟨x,h,decide_eq_true rfl⟩
theorem Z6 {l:List jj}(h:0<l.length):cJ l 1=(l.getD 0 default).form.cuts:=by
 unfold cJ;rw[if_neg adj,acA];intro c hc
 match l,h with
 | a :: l, _ =>
   show List.all [a] _=true;simp only[List.all_cons,List.all_nil,Bool.and_true];exact O9 hc
theorem RD {l:List jj}{k:Nat}(h0:k≠0)(h:k<l.length):cJ l (k+1)=(cJ l k).filter fun c=>yY (l.getD k default).form.cuts c:=by
 unfold cJ;rw[if_neg adh,if_neg h0,List.filter_filter]
 congr 1;funext c
 rw[all_succ h,Bool.and_comm]
theorem UT (l:List jj)(k:Nat):(cJ l k).length≤(l.getD 0 default).form.cuts.length:=by
 unfold cJ;split
 ·exact aaG _
 ·exact abT _ _
section
variable {α:Type} [Inhabited α]{l ys:List α}{p:α→Bool}{j k:Nat}
theorem Pa (h:∀q,q<k→p (l.getD q default)=false)(hk:k≤l.length):(l.take k).filter (fun x=>!p x)=l.take k:=by rw[acA];intro x hx;obtain⟨q,hq,rfl⟩:=acW.1 hx;rw[aaO] at hq;have:=h q adh;rw[List.getElem_take,show l[q]'adh=l.getD q default from(cU adh).symm,this];rfl
theorem Jt (hj:j<l.length)(h:p (l.getD j default)=true):(l.take (j+1)).filter (fun x=>!p x)=(l.take j).filter fun x=>!p x:=by rw[take_succ hj,abG,abz,if_neg (by rw[h];decide),acf,abe]
theorem UU (hj:j<l.length)(h:p (l.getD j default)=false):(l.take (j+1)).filter (fun x=>!p x)=(l.take j).filter (fun x=>!p x)++[l.getD j default]:=by rw[take_succ hj,abG,abz,if_pos (by rw[h];rfl),acf]
theorem RE (hk:k<ys.length)(hj:j<l.length)(hp:p (l.getD j default)=false)(h:(l.take j).filter (fun x=>!p x)=ys.take k):(l.take (j+1)).filter (fun x=>!p x)=(ys.set k (l.getD j default)).take (k+1):=by rw[UU hj hp,h,rC hk]
theorem RF {f:α→AV}{X:List AV}(hk:k≤ys.length)(hj:l.length≤j)(h:(l.take j).filter (fun x=>!p x)=ys.take k):((ys.map f).take k++X).take k=(l.filter fun x=>!p x).map f:=by rw[List.take_append_of_le_length (by simp;omega),List.take_take,Nat.min_self,←List.map_take,←h,aa2 hj]
theorem Pb:eK p l=-1→l.any p=false:=by
 unfold eK;split
 ·intro h;omega
 ·next h=>intro _;simpa using h
theorem RG (h:¬eK p l=-1):∃q:Nat,eK p l=q∧q<l.length∧(∀j,j<q→p (l.getD j default)=false)∧p (l.getD q default)=true:=by
 have ha:l.any p=true:=by
  cases hq:l.any p
  ·exact absurd (by unfold eK;rw[hq];rfl) h
  ·rfl
 have hlt:l.findIdx p<l.length:=List.findIdx_lt_length.2 (abk.1 ha);refine⟨l.findIdx p,by unfold eK;rw[if_pos ha],hlt,fun j hj=>?_,?_⟩
 ·rw[cU (Nat.lt_trans hj hlt)];simpa using List.not_of_lt_findIdx hj
 ·rw[cU hlt];exact List.findIdx_getElem
theorem RH:-1≤eK p l∧eK p l≤l.length:=by
 unfold eK;split
 ·have:=List.findIdx_le_length (xs:=l) (p:=p);omega
 ·omega
theorem Pc (h:l.any p=false):l.filter (fun x=>!p x)=l:=by
 rw[acA];intro x hx;rw[ab6] at h;have:=h x hx;cases hp:p x
 ·rfl
 ·exact absurd hp this
end
end Go.Wf
