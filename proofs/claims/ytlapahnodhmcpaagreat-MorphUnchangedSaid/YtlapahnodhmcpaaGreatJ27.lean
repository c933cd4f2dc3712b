/-
  Part of the proof.
-/
import Derived.Test.YtlapahnodhmcpaaGreatJ0
import Derived.Test.YtlapahnodhmcpaaGreatJ16
import Derived.Test.YtlapahnodhmcpaaGreatJ26
import Derived.Test.YtlapahnodhmcpaaGreatJ25
import Derived.Test.YtlapahnodhmcpaaGreatJ17
import Derived.Test.YtlapahnodhmcpaaGreatJ20
import Derived.Test.YtlapahnodhmcpaaGreatJ21
import Derived.Test.YtlapahnodhmcpaaGreatJ13
import Derived.Test.YtlapahnodhmcpaaGreatJ8
import Derived.Test.YtlapahnodhmcpaaGreatJ9
set_option linter.unusedVariables false
set_option linter.unusedSectionVars false
set_option linter.unusedSimpArgs false
set_option maxRecDepth 100000
set_option maxHeartbeats 40000000
namespace Go.Wf
open Go.Am Go.Wb
def wx (f:Nat→Bool)(n:Nat):Bool:=(List.range n).any f
theorem Bg (f:Nat→Bool)(n:Nat):wx f (n+1)=(wx f n||f n):=by unfold wx;rw[aa8,acr];simp
end Go.Wf
namespace Go.Proofs.YtlapahnodhmcpaaGreat
open Go.Am Go.Wb Go.Wc Go.Wf Go.We
noncomputable def wy (r:aF)(w:List Int)(i:Nat):Bool:=decide (0≤eB (fun p:eK=>decide (p.src=w.getD i default)) r.pairs)&&(IE r.left w i&&CB r.right w i)
variable{r:aF}{w:List Int}{i:Nat}
theorem Oa (h:eB (fun p:eK=>decide (p.src=w.getD i default)) r.pairs<0):wy r w i=false:=by unfold wy;rw[decide_eq_false acK,abD]
theorem QN (h:¬eB (fun p:eK=>decide (p.src=w.getD i default)) r.pairs<0) :
  wy r w i=(wx (fun k=>Ba r.left ((62 :: w.take i).drop k)) ((62 :: w.take i).length+1)&&wx (fun k=>Ba r.right ((w.drop (i+1)++[62]).take k)) ((w.drop (i+1)++[62]).length+1)):=by
 unfold wy;rw[decide_eq_true acK,abm];rfl
abbrev VY:=dF 6 Tryz.func223
theorem zR (hi:i<w.length)(hw:w.length≤1048576)(hl:r.pairs.length≤1099511627776)(h1r:r.left.size≤1099511627776)(h2r:r.right.size≤1099511627776):ak Tryz.prog 223 [bn r,ints w,int i] (.p (bool (wy r w i))):=by
 have hA:(62 :: w.take i).length=i+1:=by rw[aam,aau];omega
 have hB:(w.drop (i+1)++[62]).length=w.length-i:=by rw[aar,aaw];show w.length-(i+1)+1=_;omega
 refine cF VY fun w0 M0 aa=>?_
 refine c4 [2,2005,6003,1] [1,2,3,13,17] [] ?_;refine oE J J J J J J (yA hl) ?_;refine wS [3003] [1,2,3,19] [] ?_ ?_<;>intro h1;refine wZ [8008] ?_;rotate_left;refine wZ [1005,2,1000,1005,7,5000] ?_;refine oP J (nr J Tryz.underlying22 wu J J acK (fun _=>rfl)) ?_;refine wA [1000,6,1000,4] [3,7,8] [8,20] ?_;refine aI 68 [(3,_),(7,_),(8,_)] [] aa J ⟨.inl J,.inr ⟨_,_,rfl,rfl,rfl⟩,.inr ⟨_,_,rfl,rfl,rfl⟩,trivial⟩ trivial ?_;refine gz [11] [3,7,8,9,10] [] ?_;refine lp (fun zm zs=>∃k:Nat,zm=(62 :: w.take i).length+2-k∧(k≤(62 :: w.take i).length+1)∧zs=⟨68,[(3,vvz (VT r)),(7,vvw (ints (62 :: w.take i))),(8,vvw (ints (w.drop (i+1)++[62]:List Int))),(9,vvw (bool (wx (fun k=>Ba r.left ((62 :: w.take i).drop k)) k))),(10,vvw (int k))],[]⟩) ?_ ?_;have e1:ints (w.drop (i+1)++[62])=.sl ([]++List.map int (w.drop (i+1))++[int 62]):=by show AV.sl (List.map int (_++_))=_;rw[aas];rfl
 exact⟨_,0,rfl,aan _,by rw[e1];rfl⟩;rintro zm zs ⟨k,rfl,aY,rfl⟩;refine wS [5,3003] [3,7,8,9,10,37] [] ?_ ?_<;>intro h2;refine wS [2005,7002] [3,7,8,10,41] [] ?_ ?_<;>intro h3';refine wA [13,9002] [3,7,8,9,10] [] ?_;rotate_left;refine wZ [6004,5000] ?_;refine oE J J J J J J (qn (w:=(62 :: w.take i).drop k) h1r (by rw[aaw];omega)) ?_;refine wA [7,9002] [3,7,8,9,10] [] ?_;rotate_left;refine wA [18] [3,8,9,11,12] [] ?_;obtain rfl:k=(62 :: w.take i).length+1:=acK;refine lr (fun zl zo zm zs=>∃k:Nat,zm=(w.drop (i+1)++[62]:List Int).length+2-k∧(k≤(w.drop (i+1)++[62]:List Int).length+1)∧zs=eJ 68 [(9,vvw (bool (wx (fun k=>Ba r.left ((62 :: w.take i).drop k)) ((62 :: w.take i).length+1)))),(11,vvw (bool (wx (fun k=>Ba r.right ((w.drop (i+1)++[62]:List Int).take k)) k))),(12,vvw (int k))] zl [] zo) ?_ ?_;exact⟨_,0,rfl,aan _,rfl⟩;rintro zm zs ⟨k,rfl,fu,rfl⟩;refine wS [5,3003] [3,8,9,11,12,52] [] ?_ ?_<;>intro h4;refine wS [2005,7002] [3,8,9,12,56] [] ?_ ?_<;>intro h5';refine wA [13,9002] [3,8,9,11,12] [] ?_;rotate_left;refine wZ [6004,5000] ?_;refine oE J J J J J J (qn (w:=(w.drop (i+1)++[62]:List Int).take k) h2r (by rw[aau];omega)) ?_;refine wA [7,9002] [3,8,9,11,12] [] ?_;rotate_left;refine wS [4010] [11,65] [] ?_ ?_<;>intro h6';refine wZ [8006] ?_;rotate_left;refine wZ [8006] ?_;rotate_left
 all_goals first
  | (
    first|(rw[Oa acN];done)|(obtain rfl:k=(w.drop (i+1)++[62]).length+1:=acK;rw[QN acN];simp_all);done)
  | (
    refine⟨_,⟨k+1,rfl,acK,?_⟩,acK⟩;rw[Bg (fun k=>Ba r.left ((62 :: w.take i).drop k)) k];first|(rw[show wx (fun k=>Ba r.left ((62 :: w.take i).drop k)) k=true by assumption];rfl)|(rw[show wx (fun k=>Ba r.left ((62 :: w.take i).drop k)) k=false by assumption,acA];rfl);done)
  | (
    refine⟨_,⟨k+1,rfl,acK,?_⟩,acK⟩;rw[Bg (fun k=>Ba r.right ((w.drop (i+1)++[62]:List Int).take k)) k];first|(rw[show wx (fun k=>Ba r.right ((w.drop (i+1)++[62]:List Int).take k)) k=true by assumption];rfl)|(rw[show wx (fun k=>Ba r.right ((w.drop (i+1)++[62]:List Int).take k)) k=false by assumption,acA];rfl);done)
theorem TZ {α:Type} [Inhabited α]{p:α→Bool}{l:List α}:eB p l<l.length:=by
 unfold eB;split
 ·next h =>
  obtain⟨x,hx,hpx⟩:=aaQ.1 h;have:=acb ⟨x,hx,hpx⟩;omega
 ·omega
theorem II (h:wy r w i=true):0≤eB (fun p:eK=>decide (p.src=w.getD i default)) r.pairs∧eB (fun p:eK=>decide (p.src=w.getD i default)) r.pairs<r.pairs.length:=by unfold wy at h;rw[aax,decide_eq_true_eq] at h;exact⟨h.1,TZ⟩
noncomputable def sy (r:aF)(w:List Int)(i:Nat):List Int:=if wy r w i=true then(r.pairs.getD (eB (fun p:eK=>decide (p.src=w.getD i default)) r.pairs).toNat default).dst else[w.getD i default]
noncomputable def G7 (r:aF)(w:List Int)(i:Nat):List Int:=(List.range i).flatMap (sy r w)
theorem u1 (h:wy r w i=true):sy r w i=(r.pairs.getD (eB (fun p:eK=>decide (p.src=w.getD i default)) r.pairs).toNat default).dst:=if_pos h
theorem yD (h:wy r w i=false):sy r w i=[w.getD i default]:=if_neg (by rw[h];decide)
theorem Bh (r:aF)(w:List Int)(i:Nat):G7 r w (i+1)=G7 r w i++sy r w i:=by unfold G7;rw[aa8,ab6];simp
theorem T0 (h:bI r=true):∀p∈r.pairs,p.dst.length≤3∧fL p.dst=true:=fun p hp=>by unfold bI at h;simp only[aax,aaF] at h;have:=h.1.2 p hp;unfold jv at this;simp only[aax,decide_eq_true_eq] at this;exact⟨this.1.2,this.2⟩
theorem QO (h:bI r=true):∀i,(G7 r w i).length≤3*i∧(sy r w i).length≤3:=by
 have hp:∀i,(sy r w i).length≤3:=fun i=>by
  by_cases ha:wy r w i=true
  ·rw[u1 ha];exact(T0 h _ (aM (by have:=II ha;omega))).1
  ·rw[yD (by simpa using ha)];show 1≤3;decide
 intro i;refine⟨?_,hp i⟩
 induction i with
 | zero=>exact aak _
 | succ i ih=>rw[Bh,aar];have:=hp i;omega
theorem Oc {p:eK→Bool}:∀{l:List eK},(0≤eB p l→l.find? p=some (l.getD (eB p l).toNat default))∧(eB p l<0→l.find? p=none):=by
 intro l;unfold eB;cases h:l.any p with
 | true =>
   rw[if_pos rfl];refine⟨fun _=>?_,fun h0=>acK⟩;rw[abC];obtain⟨x,hx,hpx⟩:=aaQ.1 h;have hlt:l.findIdx p<l.length:=acb ⟨x,hx,hpx⟩;rw[eh hlt];have:=List.find?_eq_some_iff_getElem (xs:=l) (p:=p) (b:=l[l.findIdx p]);exact this.2 ⟨List.findIdx_getElem,l.findIdx p,hlt,rfl,fun j hj=>by simpa using List.not_of_lt_findIdx hj⟩
 | false =>
   rw[if_neg acM];refine⟨fun h0=>acK,fun _=>?_⟩;rw[acB];intro x hx;have:=abH.1 h x hx;simpa using this
theorem Ky (h:(bI r&&fL w)=false):uW r w=w:=if_neg (by rw[h];decide)
theorem G8 (h:(bI r&&fL w)=true)(hi:i=w.length):uW r w=G7 r w i:=by
 subst hi;unfold uW G7;rw[if_pos h]
 congr 1
 funext i
 unfold lo;have h1:=Oc (p:=fun p:eK=>decide (p.src=w.getD i default)) (l:=r.pairs);by_cases hx:0≤eB (fun p:eK=>decide (p.src=w.getD i default)) r.pairs
 ·rw[h1.1 hx];unfold sy wy;rw[decide_eq_true hx,abm]
 ·rw[h1.2 acK,yD (Oa acK)]
abbrev VZ:=dF 4 Tryz.func180
theorem vU (hw:w.length≤1048576)(hl:r.pairs.length≤1099511627776)(hd:∀p∈r.pairs,p.dst.length≤1099511627776)(h1r:r.left.size≤1099511627776)(h2r:r.right.size≤1099511627776):ak Tryz.prog 180 [bn r,ints w] (.fresh 3 ((uW r w).map int)):=by
 refine cF VZ fun w0 M0 aa=>?_
 refine c4 [2,1005,6] [1,2,5,7] [5] ?_;refine oC J J J J (o5 hl hd h1r h2r) ?_;refine wS [4002] [1,2,5,10] [5] ?_ ?_<;>intro h1';refine wZ [1011,8005] ?_;rotate_left;refine wA [1] [1,2,5,10,11] [5] ?_;refine oC J J J J (tF acK) ?_;refine wS [3004] [1,2,5,14] [5] ?_ ?_<;>intro h2;refine wZ [1005,8005] ?_;rotate_left;refine wA [10] [1,2,5,6] [5] ?_;have hout:=QO (r:=r) (w:=w) (by simp_all);refine lr (fun zl zo zm zs=>∃i:Nat,zm=w.length-i∧(i≤w.length)∧zs=eJ 49 [(5,.own 5),(6,vvw (int i))] zl [(5,.arr 3 ((G7 r w i).map int))] zo) ?_ ?_;exact⟨_,0,rfl,aan _,rfl⟩;rintro zm zs ⟨i,rfl,aY,rfl⟩;have hr:=hout i;refine wS [5,3003] [1,2,5,6,21] [5] ?_ ?_<;>intro h3;refine wA [10] [1,2,5,6,24,25,26] [5] ?_;refine oC J J J J (zR acK hw hl h1r h2r) ?_;refine wS [3002] [1,2,5,6,27] [5] ?_ ?_<;>intro h4;have hx0:=II acN;have hx1:=(hout i).2;rw[u1 acN] at hx1;refine wA [2001,6006,1] [1,2,6,28,30,31,35] [5] ?_;refine oE J J J J J J (yA hl) ?_;refine wA [6000,2] [1,2,6,28,39] [5] ?_;refine cT acL ?_;refine dE J (step_append J J J J Tryz.underlying22 Uz J J aa (s4 J (fun _=>⟨_,rfl⟩)) (by first|(simp only[ll];omega)|omega) (by first|(simp only[ll];omega)|omega)) ?_;refine wB J J J (hU J J) ?_;refine fe ?_;refine iS [4,9002] [1,2,5,6] [5] ?_;rotate_left;refine wA [5,1,1000,6,9002] [1,2,5,6] [5] ?_;rotate_left;refine wZ [8013] ?_;rotate_left
 all_goals first
  | (
    first|(rw[Ky (by simp_all)];first|done|rfl)|(rw[G8 (i:=i) (by simp_all) acK];first|done|rfl);done)
  | (
    exact⟨_,⟨i+1,rfl,acK,by rw[Bh,aas];first|(rw[u1 acN];rfl)|(rw[yD acN];rfl)⟩,acK⟩;done)
abbrev V0:=dF 2 Tryz.func133
theorem sA {x:Int}:ak Tryz.prog 133 [int x] (.p (bool false)):=by
 refine cF V0 fun w0 M0 aa=>?_
 refine AD [8014] ?_;rw[decide_eq_true rfl];rfl
abbrev YB:=dF 4 Tryz.func88
theorem yE {x y:Int}:ak Tryz.prog 88 [int x,int y] (.p (int (bQ x y))):=by
 refine cF YB fun w0 M0 aa=>?_
 refine c4 [8] [0,1,7] [] ?_;refine oC J J J J (sA) ?_;refine wA [6] [0,1,5,9] [] ?_;refine oC J J J J (sA) ?_;refine wS [3009] [0,1,6,11] [] ?_ ?_<;>intro h1
 cases h1 --done
 refine wS [3009] [0,1,13] [] ?_ ?_<;>intro h2
 cases h2 --done
 refine wS [3011] [0,1,16] [] ?_ ?_<;>intro h3;refine wZ [8008] ?_;rotate_left;refine wS [3011] [19] [] ?_ ?_<;>intro h4;refine wZ [8008] ?_;rotate_left;refine wZ [8009] ?_;rotate_left
 all_goals
  unfold bQ;first|rw[if_pos acN]|(rw[if_neg acN,if_pos acK];done)|(rw[if_neg acN,if_neg acK];done)
abbrev V1:=dF 2 Tryz.func259
theorem IJ {l:List Int}(hl:l.length≤1099511627776):ak Tryz.prog 259 [ints l] (.p (int (MF l))):=by
 refine cF V1 fun w0 M0 aa=>?_
 refine c4 [14,4] [3,6,7,8] [] ?_;refine lr (fun zl zo zm zs=>∃k:Nat,zm=l.length-k∧(k≤l.length)∧(MF l=MF (l.drop k))∧zs=eJ 18 [(3,vvw (int 0)),(6,vvz (ints l)),(7,vvw (int l.length)),(8,vvw (int k))] zl [] zo) ?_ ?_;exact⟨_,0,rfl,aan _,rfl,rfl⟩;rintro zm zs ⟨k,rfl,aY,aq,rfl⟩;refine wS [3006] [3,6,7,8,9] [] ?_ ?_<;>intro h1;refine wS [7,3011] [3,5,6,7,8,14] [] ?_ ?_<;>intro h2;refine wZ [8013] ?_;rw[aq,D2 acK,B6 acN];refine wA [5,9002] [3,6,7,8] [] ?_;exact⟨_,⟨k+1,rfl,acK,by rw[aq,D2 acK,mh acK],rfl⟩,acK⟩;refine wZ [8013] ?_;rw[aq,abh acK];rfl
abbrev YC:=dF 4 Tryz.func57
theorem nw {a b:List Int}(ha:a.length≤1099511627776)(hb:b.length≤1099511627776):ak Tryz.prog 57 [ints a,ints b] (.p (int (bA a b))):=by
 refine cF YC fun w0 M0 aa=>?_
 refine c4 [9,4] [0,1,9,10,11] [] ?_;refine lr (fun zl zo zm zs=>∃k:Nat,zm=a.length-k∧(k≤a.length)∧(k≤b.length)∧(bA a b=bA (a.drop k) (b.drop k))∧zs=eJ 36 [(9,vvz (ints a)),(10,vvw (int a.length)),(11,vvw (int k))] zl [] zo) ?_ ?_;exact⟨_,0,rfl,aan _,aan _,rfl,rfl⟩;rintro zm zs ⟨k,rfl,aY,aq,cY,rfl⟩;refine wS [3006] [0,1,9,10,11,12] [] ?_ ?_<;>intro h1;refine wS [8,10,3003] [0,1,5,6,9,10,11,19] [] ?_ ?_<;>intro h2;refine wZ [8013] ?_;rotate_left;refine wA [7,8] [0,1,9,10,11,24,25] [] ?_;refine oC J J J J (yE) ?_;refine wS [3009] [0,1,8,9,10,11,28] [] ?_ ?_<;>intro h3;refine wZ [8013] ?_;rotate_left;refine wA [5,9002] [0,1,9,10,11] [] ?_;exact⟨_,⟨k+1,rfl,acK,acK,by rw[cY,pX acK acK,mh acK],rfl⟩,acK⟩;refine wS [10,1,3003] [35] [] ?_ ?_<;>intro h4;refine wZ [8008] ?_;rotate_left;refine wZ [8009] ?_;rotate_left
 all_goals
  rw[cY];first|(rw[oK acK acK acK,AJ acK];done)|(rw[pX acK acK,B6 acN];done)|(rw[oK acK acK acK,uA acK];done)|(rw[oK acK acK acK,show a.length=b.length by omega,AI])
abbrev V2:=dF 6 Tryz.func260
theorem Bi {a b:List Rx}{g:FuncId}(ha:a.length≤1099511627776)(hb:b.length≤1099511627776)(hf:∀x∈a,∀y∈b,ak Tryz.prog g [rx x,rx y] (.p (int (df x y)))) :
  ak Tryz.prog 260 [jM a,jM b,.clo g []] (.p (int (cE a b))):=by
 refine cF V2 fun w0 M0 aa=>?_
 refine c4 [9,4] [0,1,2,11,12,13] [] ?_;refine lr (fun zl zo zm zs=>∃k:Nat,zm=a.length-k∧(k≤a.length)∧(k≤b.length)∧(cE a b=cE (a.drop k) (b.drop k))∧zs=eJ 39 [(11,vvz (jM a)),(12,vvw (int a.length)),(13,vvw (int k))] zl [] zo) ?_ ?_;exact⟨_,0,rfl,aan _,aan _,rfl,rfl⟩;rintro zm zs ⟨k,rfl,aY,aq,cY,rfl⟩;refine wS [3006] [0,1,2,11,12,13,14] [] ?_ ?_<;>intro h1;refine wS [8,11,3003] [0,1,2,7,8,11,12,13,21] [8] ?_ ?_<;>intro h2;refine wZ [8013] ?_;rotate_left;refine wA [7,10] [0,1,2,11,12,13,26,27,28] [] ?_;refine oC J J J J (hf _ (aQ acK) _ (aQ acK)) ?_;refine wS [3009] [0,1,2,10,11,12,13,31] [] ?_ ?_<;>intro h3;refine wZ [8013] ?_;rotate_left;refine wA [5,9002] [0,1,2,11,12,13] [] ?_;exact⟨_,⟨k+1,rfl,acK,acK,by rw[cY,si acK acK,mh acK],rfl⟩,acK⟩;refine wS [10,1,3003] [38] [] ?_ ?_<;>intro h4;refine wZ [8008] ?_;rotate_left;refine wZ [8009] ?_;rotate_left
 all_goals
  rw[cY];first|(rw[qQ acK acK acK,AJ acK];done)|(rw[si acK acK,B6 acN];done)|(rw[qQ acK acK acK,uA acK];done)|(rw[qQ acK acK acK,show a.length=b.length by omega,AI])
abbrev Sm:=dF 4 Tryz.func252
theorem tH:∀ (m:Nat)(a b:Rx),a.size≤m→b.size≤1099511627776→m≤1099511627776→ak Tryz.prog 252 [rx a,rx b] (.p (int (df a b))):=by
 intro m
 induction m with
 | zero=>intro a b hr _ _;have:=size_pos a;omega
 | succ m ih =>
 intro a b ha hb hm;have hka:=ea a;have hsa:=eA a;have hkb:=ea b;have hsb:=eA b;rw[ft a,ft b];refine cF Sm fun w0 M0 aa=>?_
 refine c4 [2,0,2004,4] [2,3,6,8] [] ?_;refine oE J J J J J J (yE) ?_;refine wA [4] [2,3,9,11,13] [] ?_;refine oE J J J J J J (nw acK acK) ?_;refine wA [4] [9,14,16,18] [] ?_;refine oE J J J J J J (Bi acK acK (fun x hx y hy=>ih x y (abf (aaT (de hx) ha)) (aaO (Nat.le_of_lt (de hy)) hb) acK)) ?_;refine wZ [6000,5000] ?_;refine oE J J J J J J (IJ (l:=[bQ a.kind b.kind,bA a.syms b.syms,cE a.kids b.kids]) (by simp)) ?_;refine wZ [8004] ?_;rw[H3]
theorem Od:Nu Tryz.prog 251 3 :=
 ⟨⟨Tryz.f251, Tryz.func251, acL, acL⟩,
  fun p cap fv w=>AnyF.slices_SortFunc_none { Tryz.j1 with } p cap fv w,
  fun enc hk h1 cf hO g cb blk off cap d w eg hcmp hH hblk hsz=>AnyQ.slices_SortFunc Tryz.j1 3 (fun w=>dj ja w) (fun w=>dt ca w) enc hk h1 cf hO g cb blk off cap d w eg hcmp hH hblk hsz⟩
theorem Oe:Mk Tryz.prog 250 :=
 ⟨⟨Tryz.f250, Tryz.func250, acL, acL⟩,
  fun p cap w=>AnyM.slices_Sort_int_none Tryz.R2 p cap w,
  fun blk off cap zs w hH hblk hsz=>AnyM.slices_Sort_int Tryz.R2 blk off cap zs w hH hblk hsz⟩
theorem Sn:U8 Tryz.prog 233 3 :=
 ⟨⟨Tryz.f233, Tryz.func233, acL, acL⟩,
  fun p cap w=>AnyQ.slices_Reverse_empty Tryz.eo p cap w,
  fun enc hk h1 blk off cap d w hH hsz=>AnyQ.slices_Reverse Tryz.eo 3 (fun w=>dj ja w) (fun w=>dt ca w) enc hk h1 blk off cap d w hH hsz⟩
abbrev V3:=dF 2 Tryz.func122
theorem o7 {l:List Int}(hl:l.length≤1099511627776):lz Tryz.prog 122 [.own 0] [(0,.arr 3 (l.map int))] (.own 0) [(0,.arr 3 ((sO (fun x y=>decide (x=y)) l).map int))]:=by
 refine gK V3 (aah J) fun w0 M0 aa=>?_
 refine pW [9,3003] [0,8] [0] ?_ ?_<;>intro h1;refine wZ [9] ?_;refine ew (o1:=[(0,_)]) J ⟨rfl,trivial⟩ ?_;rw[uB acK];exact⟨rfl,rfl⟩;refine wA [10] [0,3] [0] ?_;refine lp (fun zm zs=>∃q:Nat,zm=l.length-q∧(1≤q)∧(q≤l.length)∧(en (fun x y=>decide (x=y)) l q=l.take q)∧zs=⟨61,[(0,.own 0),(3,vvw (int q))],[(0,.arr 3 (l.map int))]⟩) ?_ ?_;exact⟨_,1,rfl,aak _,acK,by rw[tk,bD acK];rfl,rfl⟩;rintro zm zs ⟨q,rfl,aY,aq,cY,rfl⟩;have e0:((q:Int)-1).toNat=q-1:=acK;refine wS [5,3003] [0,3,13] [0] ?_ ?_<;>intro h2;refine wS [2006,6002,6000,6002,6000,6000,3003] [0,3,25] [0] ?_ ?_<;>intro h3;refine wA [5] [0,3,26,27] [0] ?_;refine oP J (dU J Tryz.underlying22 wu J J J (by first|(simp only[ll];omega)|omega)) ?_;refine wA [10] [0,3,4,5] [0] ?_;refine lp (fun zm zs=>∃(ys:List Int)(k j:Nat),zm=l.length-q-j∧(1≤j)∧(q+j≤l.length)∧(ys.length=l.length)∧(en (fun x y=>decide (x=y)) l (q+j)=ys.take k)∧(k+1≤q+j)∧(∀i,q+j≤i+1→ys.getD i default=l.getD i default)∧zs=⟨61,[(0,.own 0),(3,vvw (int k)),(4,.vsl 0 q ((l.map int).length-q)),(5,vvw (int j))],[(0,.arr 3 (ys.map int))]⟩) ?_ ?_;rw[e0] at h3;exact⟨_,l,q,1,rfl,aak _,acK,rfl,(nN acK (decide_eq_true h3)).trans cY,aak _,fun i _=>rfl,rfl⟩;rintro zm zs ⟨ys,k,j,rfl,fu,gi,nc,qt,Sp,iz,rfl⟩;refine wS [5,3003] [0,3,4,5,32] [0] ?_ ?_<;>intro h4;refine wS [2006,6002,6000,6002,6000,6000,3003] [0,3,4,5,44] [0] ?_ ?_<;>intro h5;refine wZ [7,0,0,5000] ?_;refine oS J (ay J J J wu J J (iC (by first|(simp only[ll];omega)|omega)) J J (.inl J) J (aah J) aa) J ?_;refine wA [4,6,9002] [0,3,4,5] [0] ?_;have e1:((j:Int)-1).toNat=j-1:=acK;rw[e1,iz (q+j) acK,iz (q+(j-1)) acK] at h5;refine⟨_,⟨ys.set k (l.getD (q+j) default),k+1,j+1,rfl,acK,acK,by simpa using nc,B7 acK qt ?_,acK,fun i hi=>?_,?_⟩,acK⟩
 ·rw[show q+j-1=q+(j-1) by omega];exact decide_eq_false h5
 ·rw[lK acK];exact iz i acK
 ·rw[List.map_set,←iz (q+j) acK];rfl
 refine wA [6,9002] [0,3,4,5] [0] ?_;have e1:((j:Int)-1).toNat=j-1:=acK;rw[e1,iz (q+j) acK,iz (q+(j-1)) acK] at h5;refine⟨_,⟨ys,k,j+1,rfl,acK,acK,nc,xW acK qt ?_,acK,fun i hi=>iz i acK,rfl⟩,acK⟩;rw[show q+j-1=q+(j-1) by omega];exact decide_eq_true h5;refine wA [10] [0,3,54,55] [0] ?_;refine oP J (dU J Tryz.underlying22 wu J J J (by first|(simp only[ll];omega)|omega)) ?_;refine oS J (jW (zv:=int 0) J J J Tryz.underlying22 wu J J XB acM J J aa) J ?_;refine wA [6] [57,58] [0] ?_;refine oP J (ib J Tryz.underlying22 wu J J J (by first|(simp only[ll];omega)|omega)) ?_;refine pN 59 J J aa J ?_;refine Gt [9] ?_;refine ew (o1:=[(0,_)]) J ⟨rfl,trivial⟩ ?_;refine⟨rfl,?_⟩;rw[←B8 (f:=int) (k:=k) (n:=q+j) acK acK qt];rfl;refine wA [6,9002] [0,3] [0] ?_;rw[e0] at h3;exact⟨_,⟨q+1,rfl,acK,acK,uC acK cY (decide_eq_false h3),rfl⟩,acK⟩;refine wZ [13] ?_;refine ew (o1:=[(0,_)]) J ⟨rfl,trivial⟩ ?_;rw[B9 (n:=q) acK cY];exact⟨rfl,rfl⟩
abbrev V4:=dF 4 Tryz.func253
variable{l:List Rx}
theorem rS {eq:Rx→Rx→Bool}{g:FuncId}(hl:l.length≤1099511627776)(hf:∀x∈l,∀y∈l,ak Tryz.prog g [rx x,rx y] (.p (bool (eq x y)))) :
  lz Tryz.prog 253 [.own 0,vvw (.clo g [])] [(0,.arr 87 (l.map rx))] (.own 0) [(0,.arr 87 ((sO eq l).map rx))]:=by
 refine gK V4 (aah J) fun w0 M0 aa=>?_
 refine pW [9,3003] [0,1,10] [0] ?_ ?_<;>intro h1;refine wZ [9] ?_;refine ew (o1:=[(0,_)]) J ⟨rfl,trivial⟩ ?_;rw[uB acK];exact⟨rfl,rfl⟩;refine wA [10] [0,1,5] [0] ?_;refine lp (fun zm zs=>∃q:Nat,zm=l.length-q∧(1≤q)∧(q≤l.length)∧(en (eq) l q=l.take q)∧zs=⟨66,[(0,.own 0),(1,vvw (.clo g [])),(5,vvw (int q))],[(0,.arr 87 (l.map rx))]⟩) ?_ ?_;exact⟨_,1,rfl,aak _,acK,by rw[tk,bD acK];rfl,rfl⟩;rintro zm zs ⟨q,rfl,aY,aq,cY,rfl⟩;have e0:((q:Int)-1).toNat=q-1:=acK;refine wS [5,3003] [0,1,5,15] [0] ?_ ?_<;>intro h2;refine wZ [2006,6003,6000,6002,6000,6000,5000] ?_;refine oE J J J J J J (hf _ (aQ acK) _ (aQ acK)) ?_;refine wS [3002] [0,1,5,28] [0] ?_ ?_<;>intro h3;refine wA [5] [0,1,5,29,30] [0] ?_;refine oP J (dU J Tryz.underlying85 ca J J J (by first|(simp only[ll];omega)|omega)) ?_;refine wA [10] [0,1,5,6,7] [0] ?_;refine lp (fun zm zs=>∃(ys:List Rx)(k j:Nat),zm=l.length-q-j∧(1≤j)∧(q+j≤l.length)∧(ys.length=l.length)∧(en (eq) l (q+j)=ys.take k)∧(k+1≤q+j)∧(∀i,q+j≤i+1→ys.getD i default=l.getD i default)∧(∀x∈ys,x∈l)∧zs=⟨66,[(0,.own 0),(1,vvw (.clo g [])),(5,vvw (int k)),(6,.vsl 0 q ((l.map rx).length-q)),(7,vvw (int j))],[(0,.arr 87 (ys.map rx))]⟩) ?_ ?_;rw[e0] at h3;exact⟨_,l,q,1,rfl,aak _,acK,rfl,(nN acK (h3)).trans cY,aak _,fun i _=>rfl,fun x hx=>hx,rfl⟩;rintro zm zs ⟨ys,k,j,rfl,fu,gi,nc,qt,Sp,iz,tI,rfl⟩;refine wS [5,3003] [0,1,5,6,7,35] [0] ?_ ?_<;>intro h4;refine wZ [2006,6003,6000,6002,6000,6000,5000] ?_;refine oE J J J J J J (hf _ (tI _ (aQ acK)) _ (tI _ (aQ acK))) ?_;refine wS [3003] [0,1,5,6,7,49] [0] ?_ ?_<;>intro h5;refine wZ [7,0,0,5000] ?_;refine oS J (ay J J J ca J J (iC (by first|(simp only[ll];omega)|omega)) J J (.inl J) J (aah J) aa) J ?_;refine wA [4,6,9002] [0,1,5,6,7] [0] ?_;have e1:((j:Int)-1).toNat=j-1:=acK;rw[e1,iz (q+j) acK,iz (q+(j-1)) acK] at h5;refine⟨_,⟨ys.set k (l.getD (q+j) default),k+1,j+1,rfl,acK,acK,by simpa using nc,B7 acK qt ?_,acK,fun i hi=>?_,fun x hx=>?_,?_⟩,acK⟩
 ·rw[show q+j-1=q+(j-1) by omega];exact h5
 ·rw[lK acK];exact iz i acK
 ·rcases List.mem_or_eq_of_mem_set hx with hx|rfl
  ·exact tI x hx
  ·exact aQ acK
 ·rw[List.map_set,←iz (q+j) acK];rfl
 refine wA [6,9002] [0,1,5,6,7] [0] ?_;have e1:((j:Int)-1).toNat=j-1:=acK;rw[e1,iz (q+j) acK,iz (q+(j-1)) acK] at h5;refine⟨_,⟨ys,k,j+1,rfl,acK,acK,nc,xW acK qt ?_,acK,fun i hi=>iz i acK,tI,rfl⟩,acK⟩;rw[show q+j-1=q+(j-1) by omega];exact h5;refine wA [10] [0,5,59,60] [0] ?_;refine oP J (dU J Tryz.underlying85 ca J J J (by first|(simp only[ll];omega)|omega)) ?_;refine oS J (jW (zv:=.agg [int 0,.sc (.slice none 0 0),.sc (.slice none 0 0)]) J J J Tryz.underlying85 ca J J o3 acM J J aa) J ?_;refine wA [6] [62,63] [0] ?_;refine oP J (ib J Tryz.underlying85 ca J J J (by first|(simp only[ll];omega)|omega)) ?_;refine pN 64 J J aa J ?_;refine Gt [9] ?_;refine ew (o1:=[(0,_)]) J ⟨rfl,trivial⟩ ?_;refine⟨rfl,?_⟩;rw[←B8 (f:=rx) (k:=k) (n:=q+j) acK acK qt];rfl;refine wA [6,9002] [0,1,5] [0] ?_;rw[e0] at h3;exact⟨_,⟨q+1,rfl,acK,acK,uC acK cY (h3),rfl⟩,acK⟩;refine wZ [13] ?_;refine ew (o1:=[(0,_)]) J ⟨rfl,trivial⟩ ?_;rw[B9 (n:=q) acK cY];exact⟨rfl,rfl⟩
abbrev QP (s:List Int)(k:List Rx):List (Nat×Ob):=[(10,.arr 3 (s.map int)),(11,.arr 87 (k.map rx)),(1000001,.box 22 [.own 10]),(1000002,.box 85 [.own 11])]
theorem V5:RB Tryz.prog 249 Tryz.f249.ntmps (Tryz.f249.body.getD .skip):=⟨Tryz.f249,Tryz.func249,rfl,rfl,rfl,acL⟩
theorem tJ {x:Rx}{s:List Int}{k:List Rx}(hs:s.length+x.syms.length≤1099511627776)(hk:k.length≤1099511627776) :
  lz Tryz.prog 249 [vvw (rx x),.pbox 1000001 0,.pbox 1000002 0] (QP s k) (vvw (.tup [])) (QP (oO s x) (fY k x)):=by
 rw[ft x];refine pP V5 (aah J) fun w0 M0 aa=>?_
 refine pW [2,3015] [1,2,3,5,12] [10,11,1000001,1000002] ?_ ?_<;>intro h1;refine wZ [3] ?_;refine ec (o1:=[(10,_),(11,_),(1000001,_),(1000002,_)]) ⟨rfl,rfl,rfl,rfl,trivial⟩ ?_;rw[p9 acK,Gx acK];refine wS [3007] [1,2,3,14] [10,11,1000001,1000002] ?_ ?_<;>intro h2;refine wZ [1005,3] ?_;refine ec (o1:=[(10,_),(11,_),(1000001,_),(1000002,_)]) ⟨rfl,rfl,rfl,rfl,trivial⟩ ?_;rw[uD acK,Gx acK];unfold QP;rw[aas];try rfl
 refine wZ [2001,6002,6000,5000] ?_;refine BG acL (bM (n:=4) acL ?_);refine xf 4 ?_;refine eN (i:=5) (j:=7) acL J J J J (aN J J (aE J Tryz.underlying85 ca J J J (by first|(simp only[ll];omega)|omega))) (aV J J J Cy J J J J J aa) ?_ ?_;refine eN (i:=6) (j:=7) acL J J J J (ay J J J ca J J (iF rx k _) J J (.inl J) J (aah J) aa) (aV J J J Cy J J J J J aa) ?_ ?_;refine aJ (i:=7) acL J J (aV J J J Cy J J J J J aa) ?_;refine bf acL ?_;refine Db [1] ?_;refine ec (o1:=[(10,_),(11,_),(1000001,_),(1000002,_)]) ⟨rfl,rfl,rfl,rfl,trivial⟩ ?_;rotate_left;refine aJ (i:=6) acL J J (ay J J J ca J J (iF rx k _) J J (.inl J) J (aah J) aa) ?_;refine bf acL ?_;refine Db [1] ?_;refine ec (o1:=[(10,_),(11,_),(1000001,_),(1000002,_)]) ⟨rfl,rfl,rfl,rfl,trivial⟩ ?_;rotate_left;refine xe 5 ?_;refine aJ (i:=6) acL J J (ay J J J ca J J (iF rx k _) J J (.inl J) J (aah J) aa) ?_;refine bf acL ?_;refine Db [1] ?_;refine ec (o1:=[(10,_),(11,_),(1000001,_),(1000002,_)]) ⟨rfl,rfl,rfl,rfl,trivial⟩ ?_;rotate_left
 all_goals
  rw[p9 acK,MG acK];unfold QP;rw[←xX (z:=.agg [int 0,.sc (.slice none 0 0),.sc (.slice none 0 0)]),ft x];rfl
theorem ES {P:Program}{w0:Fr}{M0:Nat→Prop}{o:Oper}{ρ:Operand→Option SV}{ob:List (Nat×Ob)}{c:fW}(h:Pure P w0 M0 o ρ ob (.v c (.sl (Rx.gA l)))):Pure P w0 M0 o ρ ob (.v c (jM l)):=by rw[xQ] at h;exact h
abbrev Sq:=dF 4 Tryz.func254
theorem Kz {x y:Rx}(hx:x.size≤1099511627776)(hy:y.size≤1099511627776):ak Tryz.prog 254 [rx x,rx y] (.p (bool (H5 x y))):=by
 refine cF Sq fun w0 M0 aa=>?_
 refine c4 [2,0,7] [5,6] [] ?_;refine oC J J J J (tH _ _ _ (aak _) hy hx) ?_;refine wZ [8005] ?_;rfl
theorem n0:cg Tryz.prog 252:=⟨Tryz.f252,Tryz.func252,acL,acL⟩
theorem Sr:um Tryz.prog 235 Tryz.f235.ntmps 2 87 3 (Tryz.f235.body.getD .skip):=⟨Tryz.f235,Tryz.func235,rfl,rfl,rfl,acL,ja,ca⟩
theorem Of (hs:Rx.aB l≤549755813888):aU Tryz.prog 235 [jM l] (.p (rx (gW l))):=by
 have hl:=dh l;have hbd:=MP l;have hM:=x8 (c8 l) (dV l);have hMl:=dh (ke (c8 l) (dV l));have L9:=dh (dV l);have QQ:∀z∈ke (c8 l) (dV l),z.size≤1099511627776:=fun z hz=>by have:=gB hz;omega
 have hDl:(dW l).length≤1099511627776:=by
   have h1:=wH (eq:=H5) (l:=j1 (ke (c8 l) (dV l)));rw[qX] at h1;show(sO _ _).length≤_;omega
 have V6:=qW (c8 l);refine bk Sr (aah J) fun w0 M0 aa=>?_
 refine c4 [17,5] [0,2,3,4,5] [2,3,4] ?_;refine bG 3 0 11 87 85 aa J J J J ?_;refine bG 4 0 10 3 22 aa J J J J ?_;refine gz [2,4] [2,3,4,5,11,12,13] [2,3,4,10,11] ?_;refine lr (fun zl zo zm zs=>∃i:Nat,zm=l.length-i∧(i≤l.length)∧zs=eJ 81 [(13,vvw (int i))] zl [(10,.arr 3 ((c7 (aX (l.take i))).map int)),(11,.arr 87 ((eZ (aX (l.take i))).map rx))] zo) ?_ ?_;exact⟨_,0,rfl,aan _,rfl⟩;rintro zm zs ⟨i,rfl,aY,rfl⟩;have hb1:=wG (aX (l.take i));have hb2:=kD (l.take i);have hb3:=gM l i;have hb4:=dh (eZ (aX (l.take i)));have hb5:=fun(h:i<l.length)=>gB (aQ h)
 have hb6:=eA (l.getD i default);have hb7:=jh l i;have hb8:=fun(h:i<l.length)=>xR h
 have hb10:=ea (l.getD i default);have hb9:=size_eq (l.getD i default);refine wS [3006] [2,3,4,5,11,12,13,14] [2,3,4,10,11] ?_ ?_<;>intro h1;refine wS [7,3013] [2,3,4,5,7,11,12,13,19] [2,3,4,7,10,11] ?_ ?_<;>intro h2;refine wA [5] [2,3,4,5,11,12,13,20,21] [2,3,4,10,11] ?_;refine oS J (aP [(1000001,4),(1000002,3)] J J J J J J J (tJ (x:=l.getD i default) (s:=c7 (aX (l.take i))) (k:=eZ (aX (l.take i))) acK acK) ⟨.inl J,.inl J,.inl J,trivial⟩ ⟨rfl,rfl,rfl,rfl,trivial⟩ J J J J J aa) J ?_;refine wA [7,9002] [2,3,4,5,11,12,13] [2,3,4,10,11] ?_;refine⟨_,⟨i+1,rfl,acK,?_⟩,acK⟩;rw[nO acK,jr acK,qU,qV];rfl;refine wA [6] [2,3,4,5,11,12,13,23] [2,3,4,7,10,11] ?_;refine oP J (ES (ae J Ko J J J)) ?_;refine wA [0,4] [2,3,4,5,11,12,13,24,25,26] [2,3,4,10,11] ?_;refine lp (fun zm zs=>∃j:Nat,zm=(l.getD i default).kids.length-j∧(j≤(l.getD i default).kids.length)∧zs=⟨81,[(2,.pbox 2 0),(3,.pbox 3 0),(4,.pbox 4 0),(5,.fn 249 [.bx 4,.bx 3]),(11,vvw (jM l)),(12,vvw (int l.length)),(13,vvw (int i)),(24,vvw (jM (l.getD i default).kids)),(25,vvw (int (l.getD i default).kids.length)),(26,vvw (int j))],[(2,.box 87 [vvw (.sc (.int .i64 0)),vvv,vvv]),(3,.box 85 [.own 11]),(4,.box 22 [.own 10]),(10,.arr 3 ((c7 (aX (l.take i)++(l.getD i default).kids.take j)).map int)),(11,.arr 87 ((eZ (aX (l.take i)++(l.getD i default).kids.take j)).map rx))]⟩) ?_ ?_;refine⟨_,0,rfl,aan _,?_⟩;rw[acJ,aaP];rfl;rintro zm zs ⟨j,rfl,fu,rfl⟩;have hc0:=hb5 acK;have hc8:=hb8 acK;have hc1:=wG (aX (l.take i)++(l.getD i default).kids.take j);rw[ee] at hc1;have hc2:=gM (l.getD i default).kids j;have hc3:=dh (eZ (aX (l.take i)++(l.getD i default).kids.take j));have hc4:=fun(h:j<(l.getD i default).kids.length)=>gB (aQ h)
 have hc5:=eA ((l.getD i default).kids.getD j default);refine wS [3006] [2,3,4,5,11,12,13,24,25,26,27] [2,3,4,10,11] ?_ ?_<;>intro h3;refine wA [7,8] [2,3,4,5,11,12,13,24,25,26,30,31] [2,3,4,10,11] ?_;refine oS J (aP [(1000001,4),(1000002,3)] J J J J J J J (tJ (x:=(l.getD i default).kids.getD j default) (s:=c7 (aX (l.take i)++(l.getD i default).kids.take j)) (k:=eZ (aX (l.take i)++(l.getD i default).kids.take j)) acK acK) ⟨.inl J,.inl J,.inl J,trivial⟩ ⟨rfl,rfl,rfl,rfl,trivial⟩ J J J J J aa) J ?_;refine wA [4,9002] [2,3,4,5,11,12,13,24,25,26] [2,3,4,10,11] ?_;refine⟨_,⟨j+1,rfl,acK,?_⟩,acK⟩;rw[AM acK,AN acK];rfl;refine wA [8,9002] [2,3,4,5,11,12,13] [2,3,4,10,11] ?_;refine⟨_,⟨i+1,rfl,acK,?_⟩,acK⟩;rw[nO acK,gQ acK,show(l.getD i default).kids.take j=(l.getD i default).kids from aaB acK];rfl;refine wA [6] [2,3,4] [2,3,4,10,11] ?_;refine ct (fun zs=>zs=⟨81,[(2,.pbox 2 0),(3,.pbox 3 0)],[(2,.box 87 [vvw (.sc (.int .i64 0)),vvv,vvv]),(3,.box 85 [.own 11]),(11,.arr 87 ((ke (c8 l) (dV l)).map rx))]⟩) ?_ ?_;refine wA [1] [2,3,4] [2,3,4,10,11] ?_;rw[show l.take i=l from aaB acK];refine wS [2,3003] [2,3,4,37] [2,3,4,10,11] ?_ ?_<;>intro h4;refine wA [4] [2,3,4,38] [2,3,4,10,11] ?_;refine oS J (xG Oe J J J J J J wu (by have h1:=wG (aX l);have h2:=kD l;omega) aa) J ?_;refine wA [2] [2,3,4] [2,3,4,10,11] ?_;rw[vF];refine kx (n:=81) (o2:=[(2,.box 87 [vvw (.sc (.int .i64 0)),vvv,vvv]),(3,.box 85 [.own 11]),(11,.arr 87 ((dV l).map rx))]) 2 6 [(40,.own 11),(41,.own 10),(42,vvw (ints (sO Pp (jF (c8 l))))),(43,vvw (rx (.mk 2 (sO Pp (jF (c8 l))) []))),(44,vvw (int (dV l).length)),(45,vvw (.sl [.agg [int 0,.sc (.slice none 0 0),.sc (.slice none 0 0)]])),(2,.pbox 2 0),(3,.pbox 3 0),(4,.pbox 4 0)] mixed acL acL acL J acL (fun t d h=>h) J ?_ ?_ ?_ ?_ ?_
 · intro i hi
   rcases(by omega:i=0∨i=1∨i=2∨i=3∨i=4∨i=5) with rfl|rfl|rfl|rfl|rfl|rfl<;>exact⟨_,_,rfl,rfl⟩
 · intro i o t d hi hia ho hd hG hn
   rcases(by omega:i=0∨i=1∨i=3∨i=4∨i=5) with rfl|rfl|rfl|rfl|rfl
   · injection (show some _ = some o from ho) with ho; subst ho; injection (show some _ = some t from hd) with hd; subst hd; injection (show some _ = some d from hG) with hG; subst hG
     exact ae J Ko J J J
   · injection (show some _ = some o from ho) with ho; subst ho; injection (show some _ = some t from hd) with hd; subst hd; injection (show some _ = some d from hG) with hG; subst hG
     exact ae J Kl J J J
   · exact absurd hn acM
   · injection (show some _ = some o from ho) with ho; subst ho; injection (show some _ = some t from hd) with hd; subst hd; injection (show some _ = some d from hG) with hG; subst hG
     exact nD J Tryz.underlying85 J
   · injection (show some _ = some o from ho) with ho; subst ho; injection (show some _ = some t from hd) with hd; subst hd; injection (show some _ = some d from hG) with hG; subst hG
     exact eu J Tryz.underlying85 ju J J J J aa
 · intro i o t d hi hia ho hd hG hn
   rcases(by omega:i=0∨i=1∨i=3∨i=4∨i=5) with rfl|rfl|rfl|rfl|rfl
   · injection (show some _ = some o from ho) with ho; subst ho; injection (show some _ = some t from hd) with hd; subst hd; injection (show some _ = some d from hG) with hG; subst hG
     exact ae J Ko J J J
   · exact absurd hn acM
   · injection (show some _ = some o from ho) with ho; subst ho; injection (show some _ = some t from hd) with hd; subst hd; injection (show some _ = some d from hG) with hG; subst hG
     exact au (aT J GX o3 J J J) J
   · injection (show some _ = some o from ho) with ho; subst ho; injection (show some _ = some t from hd) with hd; subst hd; injection (show some _ = some d from hG) with hG; subst hG
     exact nD J Tryz.underlying85 J
   · injection (show some _ = some o from ho) with ho; subst ho; injection (show some _ = some t from hd) with hd; subst hd; injection (show some _ = some d from hG) with hG; subst hG
     exact eu J Tryz.underlying85 ju J J J J aa
 · intro o X ho e7 dH c6
   have T1:41∈looks _ o→X.lookup 41=some (.own 10):=fun h=>(c6 41 h).trans rfl
   injection (show some _=some o from ho) with ho';obtain⟨s',g1,g2⟩:=DH (o:=o) (f:=122) (ats:=#[22]) (n:=81) (X:=X) (o1:=[(2,.box 87 [vvw (.sc (.int .i64 0)),vvv,vvv]),(3,.box 85 [.own 11]),(4,.box 22 [.own 10]),(10,.arr 3 ((jF (c8 l)).map int)),(11,.arr 87 ((dV l).map rx))]) (o2:=[(2,.box 87 [vvw (.sc (.int .i64 0)),vvv,vvv]),(3,.box 85 [.own 11]),(11,.arr 87 ((dV l).map rx))]) (t:=42) (u:=41) (id:=10) (by rw[←ho'];rfl) (by rw[←ho'];rfl) rfl rfl (T1 (by rw[←ho'];decide)) e7 rfl (o7 (l:=jF (c8 l)) acK) (fun t' d h hne=>DJ (u:=41) (by rfl) (dH t' d h) hne) rfl (JD.out (o1:=[(2,.box 87 [vvw (.sc (.int .i64 0)),vvv,vvv]),(3,.box 85 [.own 11]),(4,.box 22 [.own 10]),(10,.arr 3 ((jF (c8 l)).map int)),(11,.arr 87 ((dV l).map rx))]) (o2:=[(2,.box 87 [vvw (.sc (.int .i64 0)),vvv,vvv]),(3,.box 85 [.own 11]),(11,.arr 87 ((dV l).map rx))]) ⟨⟨_,rfl,rfl⟩,⟨_,rfl,rfl⟩,⟨_,rfl,rfl⟩,trivial⟩) aa;exact⟨42,_,s',by rw[←ho'];rfl,rfl,g1,g2⟩
 refine bM (n:=4) acL ?_;refine xf 6 ?_;refine eN (i:=7) (j:=9) acL J J J J (aN J J (aE J Tryz.underlying85 ca J J J (by first|(simp only[ll];omega)|omega))) (aV J J J Cy J J J J J aa) ?_ ?_;refine eN (i:=8) (j:=9) acL J J J J (ay J J J ca J J (iF rx (dV l) _) J J (.inl J) J (aah J) aa) (aV J J J Cy J J J J J aa) ?_ ?_;refine aJ (i:=9) acL J J (aV J J J Cy J J J J J aa) ?_;refine bf acL ?_;refine iS [10000] [2,3] [2,3,11] ?_;rotate_left;refine aJ (i:=8) acL J J (ay J J J ca J J (iF rx (dV l) _) J J (.inl J) J (aah J) aa) ?_;refine bf acL ?_;refine iS [10000] [2,3] [2,3,11] ?_;rotate_left;refine xe 7 ?_;refine aJ (i:=8) acL J J (ay J J J ca J J (iF rx (dV l) _) J J (.inl J) J (aah J) aa) ?_;refine bf acL ?_;refine iS [10000] [2,3] [2,3,11] ?_;rotate_left;refine wA [10002] [2,3] [2,3,11] ?_;rw[MM (by show ¬0<(c7 (aX l)).length;omega)];rfl;rintro zs ⟨rfl⟩;refine wA [3] [2,3,48] [2,3,11] ?_;refine oS J (ym (cells:=Xx) (cf:=df) (p:=fun z=>z.size≤1099511627776) Od J J J J J J J ca acM QQ (fun a b ha hb=>tH _ a b (aak _) hb ha) n0 (fun a _=>x3 a) (fun a b c _ _ _=>kC a b c) (fun a b _ _=>D6) acK aa) J ?_;refine wA [3] [2,3] [2,3,11] ?_;rw[vE];refine wA [2] [2,3,50] [2,3,11] ?_;refine oS J (aP [(0,11)] J J J J J J J (rS (eq:=H5) (l:=j1 (ke (c8 l) (dV l))) (by rw[qX];omega) (fun x hx y hy=>Kz (QQ _ (lV.1 hx)) (QQ _ (lV.1 hy)))) ⟨.inl J,.inl J,trivial⟩ ⟨rfl,trivial⟩ J J J J J aa) J ?_;refine ku 81 [(2,_),(3,_),(51,_)] [(2,_),(3,_)] aa J ⟨.inl J,.inl J,.inr ⟨_,_,rfl,rfl,rfl⟩,trivial⟩ ⟨rfl,rfl,trivial⟩ ?_;refine Xw [3] [2,3] [2,3] ?_;refine ct (fun zs=>zs=⟨81,[(2,.pbox 2 0),(3,.pbox 3 0)],[(2,.box 87 [vvw (.sc (.int .i64 0)),vvv,vvv]),(3,.box 85 [vvw (jM (kg (dW l)))])]⟩) ?_ ?_;refine wS [3,4002] [2,3,55] [2,3] ?_ ?_<;>intro h5';refine wS [1,4005] [2,3,62] [2,3] ?_ ?_<;>intro h6';refine wZ [1,5000] ?_;refine oC J J J J (gN (p:=cO) (l:=(dW l).drop 1) (by simp;omega) (fun x hx=>G3 _ _ (aak _) (QQ _ (tn (aa0 hx))))) ?_;refine wS [3003] [2,3,66] [2,3] ?_ ?_<;>intro h7;refine wA [3,10002] [2,3] [2,3] ?_;rotate_left;refine wA [10002] [2,3] [2,3] ?_;rotate_left;refine wA [10008] [2,3] [2,3] ?_;rotate_left;refine wA [10015] [2,3] [2,3] ?_;rotate_left;rintro zs ⟨rfl⟩;refine wS [4,3009] [2,3,70,71] [2,3] ?_ ?_<;>intro h8;refine wZ [10] ?_;refine aA J ?_;rotate_left;refine wS [3007] [2,3,74] [2,3] ?_ ?_<;>intro h9;refine wZ [4,7] ?_;refine aA J ?_;rotate_left;refine wZ [12] ?_;refine aA J ?_;rotate_left
 all_goals first
  | (
    have h4u:0<(c8 l).length:=by show 0<(c7 (aX l)).length;omega
    rw[ML h4u,←xX (z:=.agg [int 0,.sc (.slice none 0 0),.sc (.slice none 0 0)])];rfl;done)
  | (
    first
      | (rw[x6 (k:=dW l) (by show 1<(sO H5 (j1 (ke (c8 l) (dV l)))).length;omega) h6' h7];rfl)
      | (rw[mn (k:=dW l) (fun q=>absurd q.1 (by show ¬1<(sO H5 (j1 (ke (c8 l) (dV l)))).length;omega))];rfl)
      | (rw[mn (k:=dW l) (fun q=>h6' q.2.1)];rfl)
      | (rw[mn (k:=dW l) (fun q=>by rw[q.2.2] at h7;cases h7)];rfl);done)
  | (
    first
      | (rw[show gW l=dI from Gy (k:=kg (dW l)) acK];rfl)
      | (rw[show gW l=_ from Ca (k:=kg (dW l)) acK];rfl)
      | (rw[show gW l=_ from x5 (k:=kg (dW l)) acK acK,mT];rfl);done)
end Go.Proofs.YtlapahnodhmcpaaGreat
