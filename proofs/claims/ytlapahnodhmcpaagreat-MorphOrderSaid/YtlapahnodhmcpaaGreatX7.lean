/-
  Part of the proof.
-/
import Derived.Test.YtlapahnodhmcpaaGreatX6
set_option linter.unusedVariables false
set_option linter.unusedSectionVars false
set_option linter.unusedSimpArgs false
set_option maxRecDepth 100000
set_option maxHeartbeats 40000000
namespace Go.Am
section
variable {P:Program}
theorem dS {f n t u:Nat}{c:Code}(hf:Gd P f n t u c){ds:List AV}{r r':AV}(hn:ds.length≤n)
  (h:∀(w0:Fr)(M0:Nat→Prop),(∀b,M0 b→b<w0.w.heap.size)→aw P w0 M0 c (St.enter n .pl ds) (H8 t u r r')):aV P f ds (.p (.tup [r,r'])) :=
 ⟨hf.bu,fun w M vs hM hv hr=>pD (cl:=.pl) hf hM hn vs hv (fun j d hd=>(hr j d hd).cm (fun b hb=>Or.elim hb id (fun h=>False.elim h))) (h (Fr.all w) M hM)⟩
end
end Go.Am
namespace Go.Wf
open Go.Am Go.Wb
def WN (r:aG):AV:=.pc (IU r) 0
variable{i:Nat}
theorem e6 {P:Nat→Prop}(h:∀j,j<i→P j)(hi:P i):∀j,j<i+1→P j:=fun j hj=>by
 by_cases he:j=i
 ·subst he;exact hi
 ·exact h j adh
variable{r:aG}
theorem Hn (hi:i<r.pairs.length)(h:jA (r.pairs.getD i default)=false):bK r=false:=by unfold bK;rw[Be hi h];simp
theorem nodup_iff {l:List eS}:(l.map (·.src)).Nodup↔∀j,j<l.length→∀k,k<j→(l.getD k default).src≠(l.getD j default).src:=by
 unfold List.Nodup;rw[acr];constructor
 ·intro h j hj k hk;have:=h k j (by rw[aaA];omega) (by rw[aaA];omega) hk;rw[aco,aco] at this;rw[cU hj,cU (show k<l.length by omega)];exact this
 ·intro h i j hi hj hij;rw[aaA] at hi hj;have:=h j hj i hij;rw[cU hj,cU hi] at this;rw[aco,aco];exact this
theorem Ho {k:Nat}(hi:i<r.pairs.length)(hk:k<i)(h:(r.pairs.getD k default).src=(r.pairs.getD i default).src):bK r=false:=by unfold bK;rw[decide_eq_false fun q=>nodup_iff.1 q i hi k hk h,ab5]
theorem Hp (h:∀j,j<r.pairs.length→jA (r.pairs.getD j default)=true)(h2:∀j,j<r.pairs.length→∀k,k<j→(r.pairs.getD k default).src≠(r.pairs.getD j default).src):bK r=(decide (r.pairs.length≤60)&&aT r.left&&aT r.right):=by unfold bK;rw[uZ h,decide_eq_true (nodup_iff.2 h2),Bool.and_true,Bool.and_true]
theorem Ow (h:jo r=false):AV.sc (.map none)=Uu r∧bool false=bool (bK r):=by rw[(SO h).1,(SO h).2];exact⟨rfl,rfl⟩
theorem Q5 (hi:i=r.pairs.length)(h:jo r=true):AV.mp (oV r.pairs i) (Ut r.pairs i)=Uu r∧bool (decide (((oV r.pairs i).length:Int)=(r.pairs.length:Int)))=bool (bK r):=by subst hi;rw[(Hj h).1,(Hj h).2];exact⟨rfl,congrArg bool (decide_eq_decide.2 ⟨fun q=>by exact_mod_cast q,fun q=>by exact_mod_cast q⟩)⟩
theorem Ox (h:(decide (r.pairs.length≤60)&&aT r.left&&aT r.right)=false):jo r=false:=by unfold jo;rw[h,ab1]
theorem KR (hi:i<r.pairs.length)(h:jA (r.pairs.getD i default)=false):jo r=false:=by unfold jo;rw[Be hi h,ab5]
theorem KS (h0:(decide (r.pairs.length≤60)&&aT r.left&&aT r.right)=true)(h:∀j,j<r.pairs.length→jA (r.pairs.getD j default)=true):jo r=true:=by unfold jo;rw[h0,uZ h];rfl
end Go.Wf
namespace Go.Proofs.YtlapahnodhmcpaaGreat
open Go.Am Go.Wb Go.Wc Go.Wf
abbrev WO:=dT 4 Tryz.func224
variable{r:aG}
theorem yC {x:Int}(hl:r.pairs.length≤1099511627776):au Tryz.prog 224 [aZ r,int x] (.p (int (eK (fun p=>decide (p.src=x)) r.pairs))):=by
 refine cF WO fun w0 M0 ae=>?_
 refine db [2,10] [1,2,5] [] ?_;refine lr (fun zl zo zm zs=>∃i:Nat,zm=r.pairs.length-i∧(i≤r.pairs.length)∧(∀j,j<i→decide ((r.pairs.getD j default).src=x)=false)∧zs=eV 22 [(5,vvw (int i))] zl [] zo) ?_ ?_;exact⟨_,0,rfl,aaG _,fun j hj=>absurd hj adh,rfl⟩;rintro zm zs ⟨i,rfl,aY,ax,rfl⟩;refine wS [6,3003] [1,2,5,10] [] ?_ ?_<;>intro h1;refine wS [10,3006] [1,2,5,20] [] ?_ ?_<;>intro h2;refine wZ [8013] ?_;rw[←nJ (p:=fun p:eS=>decide (p.src=x)) (l:=r.pairs) (k:=i) adh ax (by simp_all)];refine wA [6,9002] [1,2,5] [] ?_;exact⟨_,⟨i+1,rfl,adh,cc ax (by simp_all),rfl⟩,adh⟩;refine wZ [8012] ?_;rw[←lU (p:=fun p:eS=>decide (p.src=x)) (l:=r.pairs) (fun j hj=>ax j adh)]
abbrev WQ:=dT 2 Tryz.func178
theorem o4 (hl:r.pairs.length≤1099511627776)(hd:∀p∈r.pairs,p.dst.length≤1099511627776)(h1r:r.left.size≤1099511627776)(h2r:r.right.size≤1099511627776):au Tryz.prog 178 [aZ r] (.p (bool (bK r))):=by
 refine cF WQ fun w0 M0 ae=>?_
 refine db [2,10] [1,3] [] ?_;refine lr (fun zl zo zm zs=>∃i:Nat,zm=r.pairs.length-i∧(i≤r.pairs.length)∧(∀j,j<i→jA (r.pairs.getD j default)=true)∧(∀j,j<i→∀k,k<j→(r.pairs.getD k default).src≠(r.pairs.getD j default).src)∧zs=eV 62 [(3,vvw (int i))] zl [] zo) ?_ ?_;exact⟨_,0,rfl,aaG _,fun j hj=>absurd hj adh,fun j hj=>absurd hj adh,rfl⟩;rintro zm zs ⟨i,rfl,aY,ax,c7,rfl⟩;refine wS [6,3003] [1,3,10] [] ?_ ?_<;>intro h1;refine wA [10,10] [1,3,4,19] [4] ?_;refine oC J J J J (tB) ?_;refine wS [4002] [1,3,4,22] [4] ?_ ?_<;>intro h2';refine wZ [8026] ?_;rotate_left;refine wS [2,4003] [1,3,4,28] [4] ?_ ?_<;>intro h3';refine wZ [8020] ?_;rotate_left;refine wA [2] [1,3,4,28,30] [4] ?_;refine oC J J J J (tC (hd _ (aO adh))) ?_;refine wS [3004] [1,3,4,33] [4] ?_ ?_<;>intro h4;refine wZ [8013] ?_;rotate_left;refine wA [9] [1,3,4,5] [4] ?_;refine lr (fun zl zo zm zs=>∃k:Nat,zm=i-k∧(k≤i)∧(∀j,j<k→(r.pairs.getD j default).src≠(r.pairs.getD i default).src)∧zs=eV 62 [(3,vvw (int i)),(5,vvw (int k))] zl [] zo) ?_ ?_;exact⟨_,0,rfl,aaG _,fun j hj=>absurd hj adh,rfl⟩;rintro zm zs ⟨k,rfl,gi,gj,rfl⟩;refine wS [3008] [1,3,4,5,36] [4] ?_ ?_<;>intro h5;refine wS [2006,6003,3007] [1,3,4,5,47] [4] ?_ ?_<;>intro h6;refine wZ [8016] ?_;rotate_left;refine wA [6,9002] [1,3,4,5] [4] ?_;exact⟨_,⟨k+1,rfl,adh,e6 gj (by simp_all),rfl⟩,adh⟩;refine wA [9,9002] [1,3] [] ?_;exact⟨_,⟨i+1,rfl,adh,cc ax (by unfold jA;simp_all;first|done|omega),e6 c7 (fun k hk=>gj k adh),rfl⟩,adh⟩;refine wS [10,4002] [1,52] [] ?_ ?_<;>intro h7';refine wA [2] [1,52,54] [] ?_;refine oC J J J J (lf _ _ (aaD _) h1r) ?_;refine wS [4002] [1,57] [] ?_ ?_<;>intro h8';refine wA [2] [57,59] [] ?_;refine oC J J J J (lf _ _ (aaD _) h2r) ?_;refine wZ [8005] ?_;rotate_left;refine wZ [8008] ?_;rotate_left;refine wZ [8013] ?_;rotate_left
 all_goals
  first
   | (rw[Hn (i:=i) adh (by unfold jA;simp_all;first|done|omega)];done)
   | (rw[Ho (i:=i) (k:=k) adh adh (by simp_all)];done)
   | (rw[Hp (r:=r) (fun j hj=>ax j adh) (fun j hj=>c7 j adh)];(simp_all;first|done|omega))
theorem WR:Gd Tryz.prog 165 Tryz.f165.ntmps 2 3 (Tryz.f165.body.getD .skip):=⟨Tryz.f165,Tryz.func165,rfl,rfl,rfl,adi⟩
theorem yD (hl:r.pairs.length≤1099511627776)(hd:∀p∈r.pairs,p.dst.length≤1099511627776)(h1r:r.left.size≤1099511627776)(h2r:r.right.size≤1099511627776):aV Tryz.prog 165 [aZ r] (.p (.tup [Uu r,bool (bK r)])):=by
 refine dS WR (aaz J) fun w0 M0 ae=>?_
 refine db [2,6] [1] [] ?_;refine oS J (step_map J J J J J Tryz.underlying245 (fun q hq=>by cases hq<;>exact⟨_,_,rfl⟩) ae) J ?_;refine wS [8,4002] [1,4,12] [7] ?_ ?_<;>intro h1';refine wZ [22] ?_;refine b9 J J ?_;rotate_left;refine wA [2] [1,4,12,14] [7] ?_;refine oC J J J J (mA _ _ (aaD _) h1r) ?_;refine wS [4003] [1,4,18] [7] ?_ ?_<;>intro h2';refine wZ [16] ?_;refine b9 J J ?_;rotate_left;refine wA [2] [1,4,18,20] [7] ?_;refine oC J J J J (mA _ _ (aaD _) h2r) ?_;refine wS [3004] [1,4,23] [7] ?_ ?_<;>intro h3;refine wZ [9] ?_;refine b9 J J ?_;rotate_left;refine wA [8,4] [1,4,25,26,27] [7] ?_;refine lr (fun zl zo zm zs=>∃i:Nat,zm=r.pairs.length-i∧(i≤r.pairs.length)∧(∀j,j<i→jA (r.pairs.getD j default)=true)∧zs=eV 60 [(4,.omap 7),(25,vvw (.sl (r.pairs.map yB))),(26,vvw (int r.pairs.length)),(27,vvw (int i))] zl [(7,.mp (oV r.pairs i) (Ut r.pairs i))] zo) ?_ ?_;exact⟨_,0,rfl,aaG _,fun j hj=>absurd hj adh,rfl⟩;rintro zm zs ⟨i,rfl,aY,ax,rfl⟩;refine wS [3006] [1,4,25,26,27,28] [7] ?_ ?_<;>intro h4;refine wA [7,7] [1,4,6,25,26,27] [6,7] ?_;refine aD 60 [(1,_),(4,_),(6,_),(25,_),(26,_),(27,_)] [(7,_)] ae J ⟨.inl J,.inl J,.inr ⟨_,_,rfl,rfl,rfl⟩,.inl J,.inl J,.inl J,trivial⟩ ⟨rfl,trivial⟩ ?_;refine gV [3] [1,4,6,25,26,27,32] [7] ?_;refine oC J J J J (vP) ?_;refine wS [4002] [1,4,6,25,26,27,35] [7] ?_ ?_<;>intro h5';refine wZ [27] ?_;refine b9 J J ?_;rotate_left;refine wS [2,4003] [1,4,6,25,26,27,41] [7] ?_ ?_<;>intro h6';refine wZ [21] ?_;refine b9 J J ?_;rotate_left;refine wA [2] [1,4,6,25,26,27,41,43] [7] ?_;refine oC J J J J (vQ (hd _ (aO adh))) ?_;refine wS [3004] [1,4,6,25,26,27,46] [7] ?_ ?_<;>intro h7;refine wZ [14] ?_;refine b9 J J ?_;rotate_left;refine wA [9] [1,4,25,26,27,47,49,51] [7] ?_;refine oS J (L4 J J J Tryz.underlying245 Tryz.underlying3 J J J J J (uX r.pairs i) ae) J ?_;refine wA [4,9002] [1,4,25,26,27] [7] ?_;exact⟨_,⟨i+1,rfl,adh,cc ax (by unfold jA;simp_all;first|done|omega),rfl⟩,adh⟩;refine wA [2007,2] [1,53,54] [7] ?_;refine oD J J J (JQ J Tryz.underlying245 J) ?_;refine wZ [6002,6] ?_;refine b9 J J ?_;rotate_left
 all_goals
  first
   | exact Ow (Ox (by simp_all;first|done|omega))
   | exact Ow (KR (i:=i) adh (by unfold jA;simp_all;first|done|omega))
   | exact Q5 adh (KS (by simp_all;first|done|omega) (fun j hj=>ax j adh))
abbrev WS:=dT 2 Tryz.func141
theorem E0 (hl:r.pairs.length≤1099511627776)(hd:∀p∈r.pairs,p.dst.length≤1099511627776)(h1r:r.left.size≤1099511627776)(h2r:r.right.size≤1099511627776):au Tryz.prog 141 [aZ r] (.p (bool (bK r))):=by
 refine cF WS fun w0 M0 ae=>?_
 refine db [2,6] [6] [] ?_;refine oN J J J J J (yD hl hd h1r h2r) ?_;refine wZ [8014] ?_;rfl
end Go.Proofs.YtlapahnodhmcpaaGreat
namespace Go.Wf
open Go.Am Go.Wb Go.Wc
abbrev strs (l:List (List UInt8)):AV:=.sl (l.map ak)
structure gE where
 name:List UInt8
 pre:List Int
 suf:List Int
 change:List (List UInt8)
 deriving Inhabited,DecidableEq
def E2 (c:gE):List AV:=[ak c.name,ints c.pre,ints c.suf,strs c.change]
def cu (c:gE):AV:=.agg (E2 c)
structure eu where
 name:List UInt8
 fits:Rx
 strip:Int
 cells:List gE
 deriving Inhabited
def o5 (c:eu):List AV:=[ak c.name,int c.fits.kind,ints c.fits.syms,.sl (Rx.gv c.fits.kids),int c.strip,.sl (c.cells.map cu)]
def bj (c:eu):AV:=.agg (o5 c)
structure Q6 where
 name:List UInt8
 syms:List Int
 deriving Inhabited,DecidableEq
def fh (s:Q6):AV:=.agg [ak s.name,ints s.syms]
structure aA where
 sets:List Q6
 rules:List aG
 classes:List eu
 order:List (List UInt8)
 deriving Inhabited
def tD (g:aA):List AV:=[.sl (g.sets.map fh),.sl (g.rules.map aZ),.sl (g.classes.map bj),strs g.order]
def cD (g:aA):AV:=.agg (tD g)
def ng (g:aA):AV:=.pc (tD g) 0
def Oy (c:eu):AV:=.pc (o5 c) 0
structure aI where
 cell:List UInt8
 af:List Int
 cuts:List Int
 rules:List (List UInt8)
 deriving Inhabited,DecidableEq
def E4 (f:aI):List AV:=[ak f.cell,ints f.af,ints f.cuts,strs f.rules]
def gF (f:aI):AV:=.agg (E4 f)
structure da where
 lemma_:List Int
 class_:List UInt8
 deriving Inhabited,DecidableEq
def dx (x:da):AV:=.agg [ints x.lemma_,ak x.class_]
def qh {α:Type}(f:α→List UInt8)(l:List α)(n:List UInt8):Option α:=l.find? fun x=>decide (f x=n)
variable{α:Type}{n:List UInt8}{i:Nat}
theorem qi  [Inhabited α]{f:α→List UInt8}{l:List α}(hi:i<l.length)(h:∀j,j<i→decide (f (l.getD j default)=n)=false)(hp:f (l.getD i default)=n):qh f l n=some (l.getD i default):=by unfold qh;rw[List.find?_eq_some_iff_getElem];refine⟨decide_eq_true hp,i,hi,(cU hi).symm,fun j hj=>?_⟩;have:=h j hj;rw[cU (show j<l.length by omega)] at this;rw[this];rfl
theorem nZ  [Inhabited α]{f:α→List UInt8}{l:List α}(h:∀j,j<l.length→decide (f (l.getD j default)=n)=false):qh f l n=none:=by unfold qh;rw[ac6];intro x hx;obtain⟨j,hj,rfl⟩:=acW.1 hx;have:=h j hj;rw[cU hj] at this;simpa using this
def E5:eu:=⟨[],dO,0,[]⟩
def I0:gE:=⟨[],[],[],[]⟩
def fR (g:aA)(n:List UInt8):Option eu:=qh (·.name) g.classes n
def nh (c:eu)(n:List UInt8):Option gE:=qh (·.name) c.cells n
def tE (g:aA)(n:List UInt8):Option aG:=qh (·.name) g.rules n
def wq (g:aA)(l:List (List UInt8)):List aG:=l.map fun n=>(tE g n).getD default
def ni (g:aA)(l:List (List UInt8)):Bool:=l.all fun n=>(tE g n).isSome
def bq (g:aA)(l:List (List UInt8)):List aG:=if ni g l=true then wq g l else[]
variable{g:aA}{l:List (List UInt8)}
theorem CJ (hi:i<l.length)(h:tE g (l.getD i default)=none):bq g l=[]∧ni g l=false:=by have:ni g l=false:=Be hi (by rw[h];rfl);exact⟨if_neg (by rw[this];decide),this⟩
theorem w7 (h:∀j,j<l.length→(tE g (l.getD j default)).isSome=true):bq g l=wq g l∧ni g l=true:=by have:ni g l=true:=uZ h;exact⟨if_pos this,this⟩
theorem Bh (hi:i<l.length){r:aG}(h:tE g (l.getD i default)=some r):wq g (l.take (i+1))=wq g (l.take i)++[r]:=by unfold wq;rw[take_succ hi,aaK,ac7,h];rfl
theorem yE :(wq g l).length=l.length:=aaA _
theorem qX  [Inhabited α]{f:α→List UInt8}{l:List α}:(0≤eK (fun x=>decide (f x=n)) l→qh f l n=some (l.getD (eK (fun x=>decide (f x=n)) l).toNat default))∧(eK (fun x=>decide (f x=n)) l<0→qh f l n=none):=by
 unfold eK qh;cases h:l.any fun x=>decide (f x=n) with
 | true =>
   rw[if_pos rfl];refine⟨fun _=>?_,fun h0=>adh⟩;rw[acb];obtain⟨x,hx,hpx⟩:=abk.1 h;have hlt:l.findIdx (fun x=>decide (f x=n))<l.length:=acG ⟨x,hx,hpx⟩;rw[cU hlt];have:=List.find?_eq_some_iff_getElem (xs:=l) (p:=fun x=>decide (f x=n)) (b:=l[l.findIdx fun x=>decide (f x=n)]);exact this.2 ⟨List.findIdx_getElem (xs:=l) (p:=fun x=>decide (f x=n)) (w:=hlt),_,hlt,rfl,fun j hj=>by simpa using List.not_of_lt_findIdx hj⟩
 | false =>
   rw[if_neg adj];refine⟨fun h0=>adh,fun _=>?_⟩;rw[ac6];intro x hx;have:=ab6.1 h x hx;simpa using this
theorem SR  [Inhabited α]{p:α→Bool}{l:List α}:eK p l<l.length:=by
 unfold eK;split
 ·next h =>
  obtain⟨x,hx,hpx⟩:=abk.1 h;have:=acG ⟨x,hx,hpx⟩;omega
 ·omega
def wu (f:Nat→Bool)(n:Nat):Bool:=(List.range n).any f
theorem Bi (f:Nat→Bool)(n:Nat):wu f (n+1)=(wu f n||f n):=by unfold wu;rw[abB,ac4];simp
end Go.Wf
namespace Go.Proofs.YtlapahnodhmcpaaGreat
open Go.Am Go.Wb Go.Wc Go.Wf Go.We
noncomputable def wv (r:aG)(w:List Int)(i:Nat):Bool:=decide (0≤eK (fun p:eS=>decide (p.src=w.getD i default)) r.pairs)&&(IX r.left w i&&CI r.right w i)
variable{r:aG}{w:List Int}{i:Nat}
theorem Oz (h:eK (fun p:eS=>decide (p.src=w.getD i default)) r.pairs<0):wv r w i=false:=by unfold wv;rw[decide_eq_false adh,ab1]
theorem Q7 (h:¬eK (fun p:eS=>decide (p.src=w.getD i default)) r.pairs<0) :
  wv r w i=(wu (fun k=>Bc r.left ((62 :: w.take i).drop k)) ((62 :: w.take i).length+1)&&wu (fun k=>Bc r.right ((w.drop (i+1)++[62]).take k)) ((w.drop (i+1)++[62]).length+1)):=by
 unfold wv;rw[decide_eq_true adh,abS];rfl
abbrev WT:=dT 6 Tryz.func223
theorem zP (hi:i<w.length)(hw:w.length≤1048576)(hl:r.pairs.length≤1099511627776)(h1r:r.left.size≤1099511627776)(h2r:r.right.size≤1099511627776):au Tryz.prog 223 [aZ r,ints w,int i] (.p (bool (wv r w i))):=by
 have hA:(62 :: w.take i).length=i+1:=by rw[aaE,aaO];omega
 have hB:(w.drop (i+1)++[62]).length=w.length-i:=by rw[aaM,aaX];show w.length-(i+1)+1=_;omega
 refine cF WT fun w0 M0 ae=>?_
 refine db [2,2005,6003,1] [1,2,3,13,17] [] ?_;refine oE J J J J J J (yC hl) ?_;refine wS [3003] [1,2,3,19] [] ?_ ?_<;>intro h1;refine wZ [8008] ?_;rotate_left;refine wZ [1005,2,1000,1005,7,5000] ?_;refine oP J (nt J Tryz.underlying22 w6 J J adh (fun _=>rfl)) ?_;refine wA [1000,6,1000,4] [3,7,8] [8,20] ?_;refine aD 68 [(3,_),(7,_),(8,_)] [] ae J ⟨.inl J,.inr ⟨_,_,rfl,rfl,rfl⟩,.inr ⟨_,_,rfl,rfl,rfl⟩,trivial⟩ trivial ?_;refine gV [11] [3,7,8,9,10] [] ?_;refine lp (fun zm zs=>∃k:Nat,zm=(62 :: w.take i).length+2-k∧(k≤(62 :: w.take i).length+1)∧zs=⟨68,[(3,vvz (WN r)),(7,vvw (ints (62 :: w.take i))),(8,vvw (ints (w.drop (i+1)++[62]:List Int))),(9,vvw (bool (wu (fun k=>Bc r.left ((62 :: w.take i).drop k)) k))),(10,vvw (int k))],[]⟩) ?_ ?_;have e1:ints (w.drop (i+1)++[62])=.sl ([]++List.map int (w.drop (i+1))++[int 62]):=by show AV.sl (List.map int (_++_))=_;rw[aaK];rfl
 exact⟨_,0,rfl,aaG _,by rw[e1];rfl⟩;rintro zm zs ⟨k,rfl,aY,rfl⟩;refine wS [5,3003] [3,7,8,9,10,37] [] ?_ ?_<;>intro h2;refine wS [2005,7002] [3,7,8,10,41] [] ?_ ?_<;>intro h3';refine wA [13,9002] [3,7,8,9,10] [] ?_;rotate_left;refine wZ [6004,5000] ?_;refine oE J J J J J J (qf (w:=(62 :: w.take i).drop k) h1r (by rw[aaX];omega)) ?_;refine wA [7,9002] [3,7,8,9,10] [] ?_;rotate_left;refine wA [18] [3,8,9,11,12] [] ?_;obtain rfl:k=(62 :: w.take i).length+1:=adh;refine lr (fun zl zo zm zs=>∃k:Nat,zm=(w.drop (i+1)++[62]:List Int).length+2-k∧(k≤(w.drop (i+1)++[62]:List Int).length+1)∧zs=eV 68 [(9,vvw (bool (wu (fun k=>Bc r.left ((62 :: w.take i).drop k)) ((62 :: w.take i).length+1)))),(11,vvw (bool (wu (fun k=>Bc r.right ((w.drop (i+1)++[62]:List Int).take k)) k))),(12,vvw (int k))] zl [] zo) ?_ ?_;exact⟨_,0,rfl,aaG _,rfl⟩;rintro zm zs ⟨k,rfl,gi,rfl⟩;refine wS [5,3003] [3,8,9,11,12,52] [] ?_ ?_<;>intro h4;refine wS [2005,7002] [3,8,9,12,56] [] ?_ ?_<;>intro h5';refine wA [13,9002] [3,8,9,11,12] [] ?_;rotate_left;refine wZ [6004,5000] ?_;refine oE J J J J J J (qf (w:=(w.drop (i+1)++[62]:List Int).take k) h2r (by rw[aaO];omega)) ?_;refine wA [7,9002] [3,8,9,11,12] [] ?_;rotate_left;refine wS [4010] [11,65] [] ?_ ?_<;>intro h6';refine wZ [8006] ?_;rotate_left;refine wZ [8006] ?_;rotate_left
 all_goals first
  | (
    first|(rw[Oz adk];done)|(obtain rfl:k=(w.drop (i+1)++[62]).length+1:=adh;rw[Q7 adk];simp_all);done)
  | (
    refine⟨_,⟨k+1,rfl,adh,?_⟩,adh⟩;rw[Bi (fun k=>Bc r.left ((62 :: w.take i).drop k)) k];first|(rw[show wu (fun k=>Bc r.left ((62 :: w.take i).drop k)) k=true by assumption];rfl)|(rw[show wu (fun k=>Bc r.left ((62 :: w.take i).drop k)) k=false by assumption,Bool.false_or];rfl);done)
  | (
    refine⟨_,⟨k+1,rfl,adh,?_⟩,adh⟩;rw[Bi (fun k=>Bc r.right ((w.drop (i+1)++[62]:List Int).take k)) k];first|(rw[show wu (fun k=>Bc r.right ((w.drop (i+1)++[62]:List Int).take k)) k=true by assumption];rfl)|(rw[show wu (fun k=>Bc r.right ((w.drop (i+1)++[62]:List Int).take k)) k=false by assumption,Bool.false_or];rfl);done)
theorem Uv {α:Type} [Inhabited α]{p:α→Bool}{l:List α}:eK p l<l.length:=by
 unfold eK;split
 ·next h =>
  obtain⟨x,hx,hpx⟩:=abk.1 h;have:=acG ⟨x,hx,hpx⟩;omega
 ·omega
theorem I1 (h:wv r w i=true):0≤eK (fun p:eS=>decide (p.src=w.getD i default)) r.pairs∧eK (fun p:eS=>decide (p.src=w.getD i default)) r.pairs<r.pairs.length:=by unfold wv at h;rw[aaZ,decide_eq_true_eq] at h;exact⟨h.1,Uv⟩
noncomputable def sr (r:aG)(w:List Int)(i:Nat):List Int:=if wv r w i=true then(r.pairs.getD (eK (fun p:eS=>decide (p.src=w.getD i default)) r.pairs).toNat default).dst else[w.getD i default]
noncomputable def Hq (r:aG)(w:List Int)(i:Nat):List Int:=(List.range i).flatMap (sr r w)
theorem u1 (h:wv r w i=true):sr r w i=(r.pairs.getD (eK (fun p:eS=>decide (p.src=w.getD i default)) r.pairs).toNat default).dst:=if_pos h
theorem yF (h:wv r w i=false):sr r w i=[w.getD i default]:=if_neg (by rw[h];decide)
theorem Bj (r:aG)(w:List Int)(i:Nat):Hq r w (i+1)=Hq r w i++sr r w i:=by unfold Hq;rw[abB,acp];simp
theorem Uw (h:bK r=true):∀p∈r.pairs,p.dst.length≤3∧fP p.dst=true:=fun p hp=>by unfold bK at h;simp only[aaZ,aa5] at h;have:=h.1.2 p hp;unfold jA at this;simp only[aaZ,decide_eq_true_eq] at this;exact⟨this.1.2,this.2⟩
theorem Q8 (h:bK r=true):∀i,(Hq r w i).length≤3*i∧(sr r w i).length≤3:=by
 have hp:∀i,(sr r w i).length≤3:=fun i=>by
  by_cases ha:wv r w i=true
  ·rw[u1 ha];exact(Uw h _ (aO (by have:=I1 ha;omega))).1
  ·rw[yF (by simpa using ha)];show 1≤3;decide
 intro i;refine⟨?_,hp i⟩
 induction i with
 | zero=>exact aaD _
 | succ i ih=>rw[Bj,aaM];have:=hp i;omega
theorem OA {p:eS→Bool}:∀{l:List eS},(0≤eK p l→l.find? p=some (l.getD (eK p l).toNat default))∧(eK p l<0→l.find? p=none):=by
 intro l;unfold eK;cases h:l.any p with
 | true =>
   rw[if_pos rfl];refine⟨fun _=>?_,fun h0=>adh⟩;rw[acb];obtain⟨x,hx,hpx⟩:=abk.1 h;have hlt:l.findIdx p<l.length:=acG ⟨x,hx,hpx⟩;rw[cU hlt];have:=List.find?_eq_some_iff_getElem (xs:=l) (p:=p) (b:=l[l.findIdx p]);exact this.2 ⟨List.findIdx_getElem,l.findIdx p,hlt,rfl,fun j hj=>by simpa using List.not_of_lt_findIdx hj⟩
 | false =>
   rw[if_neg adj];refine⟨fun h0=>adh,fun _=>?_⟩;rw[ac6];intro x hx;have:=ab6.1 h x hx;simpa using this
theorem KT (h:(bK r&&fP w)=false):uW r w=w:=if_neg (by rw[h];decide)
theorem Hr (h:(bK r&&fP w)=true)(hi:i=w.length):uW r w=Hq r w i:=by
 subst hi;unfold uW Hq;rw[if_pos h]
 congr 1
 funext i
 unfold ly;have h1:=OA (p:=fun p:eS=>decide (p.src=w.getD i default)) (l:=r.pairs);by_cases hx:0≤eK (fun p:eS=>decide (p.src=w.getD i default)) r.pairs
 ·rw[h1.1 hx];unfold sr wv;rw[decide_eq_true hx,abS]
 ·rw[h1.2 adh,yF (Oz adh)]
abbrev WU:=dT 4 Tryz.func180
theorem vS (hw:w.length≤1048576)(hl:r.pairs.length≤1099511627776)(hd:∀p∈r.pairs,p.dst.length≤1099511627776)(h1r:r.left.size≤1099511627776)(h2r:r.right.size≤1099511627776):au Tryz.prog 180 [aZ r,ints w] (.fresh 3 ((uW r w).map int)):=by
 refine cF WU fun w0 M0 ae=>?_
 refine db [2,1005,6] [1,2,5,7] [5] ?_;refine oC J J J J (o4 hl hd h1r h2r) ?_;refine wS [4002] [1,2,5,10] [5] ?_ ?_<;>intro h1';refine wZ [1011,8005] ?_;rotate_left;refine wA [1] [1,2,5,10,11] [5] ?_;refine oC J J J J (tC adh) ?_;refine wS [3004] [1,2,5,14] [5] ?_ ?_<;>intro h2;refine wZ [1005,8005] ?_;rotate_left;refine wA [10] [1,2,5,6] [5] ?_;have hout:=Q8 (r:=r) (w:=w) (by simp_all);refine lr (fun zl zo zm zs=>∃i:Nat,zm=w.length-i∧(i≤w.length)∧zs=eV 49 [(5,.own 5),(6,vvw (int i))] zl [(5,.arr 3 ((Hq r w i).map int))] zo) ?_ ?_;exact⟨_,0,rfl,aaG _,rfl⟩;rintro zm zs ⟨i,rfl,aY,rfl⟩;have hr:=hout i;refine wS [5,3003] [1,2,5,6,21] [5] ?_ ?_<;>intro h3;refine wA [10] [1,2,5,6,24,25,26] [5] ?_;refine oC J J J J (zP adh hw hl h1r h2r) ?_;refine wS [3002] [1,2,5,6,27] [5] ?_ ?_<;>intro h4;have hx0:=I1 adk;have hx1:=(hout i).2;rw[u1 adk] at hx1;refine wA [2001,6006,1] [1,2,6,28,30,31,35] [5] ?_;refine oE J J J J J J (yC hl) ?_;refine wA [6000,2] [1,2,6,28,39] [5] ?_;refine b8 adi ?_;refine cB J (step_append J J J J Tryz.underlying22 Vi J J ae (sX J (fun _=>⟨_,rfl⟩)) (by first|(simp only[ll];omega)|omega) (by first|(simp only[ll];omega)|omega)) ?_;refine sQ J J J (kQ J J) ?_;refine dN ?_;refine hZ [4,9002] [1,2,5,6] [5] ?_;rotate_left;refine wA [5,1,1000,6,9002] [1,2,5,6] [5] ?_;rotate_left;refine wZ [8013] ?_;rotate_left
 all_goals first
  | (
    first|(rw[KT (by simp_all)];first|done|rfl)|(rw[Hr (i:=i) (by simp_all) adh];first|done|rfl);done)
  | (
    exact⟨_,⟨i+1,rfl,adh,by rw[Bj,aaK];first|(rw[u1 adk];rfl)|(rw[yF adk];rfl)⟩,adh⟩;done)
abbrev WV:=dT 2 Tryz.func133
theorem ss {x:Int}:au Tryz.prog 133 [int x] (.p (bool false)):=by
 refine cF WV fun w0 M0 ae=>?_
 refine AD [8014] ?_;rw[decide_eq_true rfl];rfl
abbrev Zl:=dT 4 Tryz.func88
theorem yH {x y:Int}:au Tryz.prog 88 [int x,int y] (.p (int (bS x y))):=by
 refine cF Zl fun w0 M0 ae=>?_
 refine db [8] [0,1,7] [] ?_;refine oC J J J J (ss) ?_;refine wA [6] [0,1,5,9] [] ?_;refine oC J J J J (ss) ?_;refine wS [3009] [0,1,6,11] [] ?_ ?_<;>intro h1
 cases h1 --done
 refine wS [3009] [0,1,13] [] ?_ ?_<;>intro h2
 cases h2 --done
 refine wS [3011] [0,1,16] [] ?_ ?_<;>intro h3;refine wZ [8008] ?_;rotate_left;refine wS [3011] [19] [] ?_ ?_<;>intro h4;refine wZ [8008] ?_;rotate_left;refine wZ [8009] ?_;rotate_left
 all_goals
  unfold bS;first|rw[if_pos adk]|(rw[if_neg adk,if_pos adh];done)|(rw[if_neg adk,if_neg adh];done)
abbrev WW:=dT 2 Tryz.func259
theorem I2 {l:List Int}(hl:l.length≤1099511627776):au Tryz.prog 259 [ints l] (.p (int (MW l))):=by
 refine cF WW fun w0 M0 ae=>?_
 refine db [14,4] [3,6,7,8] [] ?_;refine lr (fun zl zo zm zs=>∃k:Nat,zm=l.length-k∧(k≤l.length)∧(MW l=MW (l.drop k))∧zs=eV 18 [(3,vvw (int 0)),(6,vvz (ints l)),(7,vvw (int l.length)),(8,vvw (int k))] zl [] zo) ?_ ?_;exact⟨_,0,rfl,aaG _,rfl,rfl⟩;rintro zm zs ⟨k,rfl,aY,ax,rfl⟩;refine wS [3006] [3,6,7,8,9] [] ?_ ?_<;>intro h1;refine wS [7,3011] [3,5,6,7,8,14] [] ?_ ?_<;>intro h2;refine wZ [8013] ?_;rw[ax,Ef adh,Cd adk];refine wA [5,9002] [3,6,7,8] [] ?_;exact⟨_,⟨k+1,rfl,adh,by rw[ax,Ef adh,mg adh],rfl⟩,adh⟩;refine wZ [8013] ?_;rw[ax,abM adh];rfl
abbrev Zm:=dT 4 Tryz.func57
theorem nz {a b:List Int}(ha:a.length≤1099511627776)(hb:b.length≤1099511627776):au Tryz.prog 57 [ints a,ints b] (.p (int (bC a b))):=by
 refine cF Zm fun w0 M0 ae=>?_
 refine db [9,4] [0,1,9,10,11] [] ?_;refine lr (fun zl zo zm zs=>∃k:Nat,zm=a.length-k∧(k≤a.length)∧(k≤b.length)∧(bC a b=bC (a.drop k) (b.drop k))∧zs=eV 36 [(9,vvz (ints a)),(10,vvw (int a.length)),(11,vvw (int k))] zl [] zo) ?_ ?_;exact⟨_,0,rfl,aaG _,aaG _,rfl,rfl⟩;rintro zm zs ⟨k,rfl,aY,ax,c7,rfl⟩;refine wS [3006] [0,1,9,10,11,12] [] ?_ ?_<;>intro h1;refine wS [8,10,3003] [0,1,5,6,9,10,11,19] [] ?_ ?_<;>intro h2;refine wZ [8013] ?_;rotate_left;refine wA [7,8] [0,1,9,10,11,24,25] [] ?_;refine oC J J J J (yH) ?_;refine wS [3009] [0,1,8,9,10,11,28] [] ?_ ?_<;>intro h3;refine wZ [8013] ?_;rotate_left;refine wA [5,9002] [0,1,9,10,11] [] ?_;exact⟨_,⟨k+1,rfl,adh,adh,by rw[c7,pP adh adh,mg adh],rfl⟩,adh⟩;refine wS [10,1,3003] [35] [] ?_ ?_<;>intro h4;refine wZ [8008] ?_;rotate_left;refine wZ [8009] ?_;rotate_left
 all_goals
  rw[c7];first|(rw[oK adh adh adh,AJ adh];done)|(rw[pP adh adh,Cd adk];done)|(rw[oK adh adh adh,uA adh];done)|(rw[oK adh adh adh,show a.length=b.length by omega,AI])
abbrev WX:=dT 6 Tryz.func260
theorem Bk {a b:List Rx}{g:FuncId}(ha:a.length≤1099511627776)(hb:b.length≤1099511627776)(hf:∀x∈a,∀y∈b,au Tryz.prog g [rx x,rx y] (.p (int (dt x y)))) :
  au Tryz.prog 260 [jM a,jM b,.clo g []] (.p (int (cL a b))):=by
 refine cF WX fun w0 M0 ae=>?_
 refine db [9,4] [0,1,2,11,12,13] [] ?_;refine lr (fun zl zo zm zs=>∃k:Nat,zm=a.length-k∧(k≤a.length)∧(k≤b.length)∧(cL a b=cL (a.drop k) (b.drop k))∧zs=eV 39 [(11,vvz (jM a)),(12,vvw (int a.length)),(13,vvw (int k))] zl [] zo) ?_ ?_;exact⟨_,0,rfl,aaG _,aaG _,rfl,rfl⟩;rintro zm zs ⟨k,rfl,aY,ax,c7,rfl⟩;refine wS [3006] [0,1,2,11,12,13,14] [] ?_ ?_<;>intro h1;refine wS [8,11,3003] [0,1,2,7,8,11,12,13,21] [8] ?_ ?_<;>intro h2;refine wZ [8013] ?_;rotate_left;refine wA [7,10] [0,1,2,11,12,13,26,27,28] [] ?_;refine oC J J J J (hf _ (aS adh) _ (aS adh)) ?_;refine wS [3009] [0,1,2,10,11,12,13,31] [] ?_ ?_<;>intro h3;refine wZ [8013] ?_;rotate_left;refine wA [5,9002] [0,1,2,11,12,13] [] ?_;exact⟨_,⟨k+1,rfl,adh,adh,by rw[c7,sa adh adh,mg adh],rfl⟩,adh⟩;refine wS [10,1,3003] [38] [] ?_ ?_<;>intro h4;refine wZ [8008] ?_;rotate_left;refine wZ [8009] ?_;rotate_left
 all_goals
  rw[c7];first|(rw[qG adh adh adh,AJ adh];done)|(rw[sa adh adh,Cd adk];done)|(rw[qG adh adh adh,uA adh];done)|(rw[qG adh adh adh,show a.length=b.length by omega,AI])
abbrev SS:=dT 4 Tryz.func252
theorem tF:∀ (m:Nat)(a b:Rx),a.size≤m→b.size≤1099511627776→m≤1099511627776→au Tryz.prog 252 [rx a,rx b] (.p (int (dt a b))):=by
 intro m
 induction m with
 | zero=>intro a b hr _ _;have:=size_pos a;omega
 | succ m ih =>
 intro a b ha hb hm;have hka:=ek a;have hsa:=eJ a;have hkb:=ek b;have hsb:=eJ b;rw[fy a,fy b];refine cF SS fun w0 M0 ae=>?_
 refine db [2,0,2004,4] [2,3,6,8] [] ?_;refine oE J J J J J J (yH) ?_;refine wA [4] [2,3,9,11,13] [] ?_;refine oE J J J J J J (nz adh adh) ?_;refine wA [4] [9,14,16,18] [] ?_;refine oE J J J J J J (Bk adh adh (fun x hx y hy=>ih x y (abI (abj (dp hx) ha)) (abb (Nat.le_of_lt (dp hy)) hb) adh)) ?_;refine wZ [6000,5000] ?_;refine oE J J J J J J (I2 (l:=[bS a.kind b.kind,bC a.syms b.syms,cL a.kids b.kids]) (by simp)) ?_;refine wZ [8004] ?_;rw[Im]
theorem OB:NM Tryz.prog 251 3 :=
 ⟨⟨Tryz.f251, Tryz.func251, adi, adi⟩,
  fun p cap fv w=>AnyF.slices_SortFunc_none { Tryz.jX with } p cap fv w,
  fun enc hk h1 cf hO g cb blk off cap d w eg hcmp hH hblk hsz=>AnyQ.slices_SortFunc Tryz.jX 3 (fun w=>dy je w) (fun w=>dE bY w) enc hk h1 cf hO g cb blk off cap d w eg hcmp hH hblk hsz⟩
theorem OC:MC Tryz.prog 250 :=
 ⟨⟨Tryz.f250, Tryz.func250, adi, adi⟩,
  fun p cap w=>AnyM.slices_Sort_int_none Tryz.Su p cap w,
  fun blk off cap zs w hH hblk hsz=>AnyM.slices_Sort_int Tryz.Su blk off cap zs w hH hblk hsz⟩
theorem SU:VR Tryz.prog 233 3 :=
 ⟨⟨Tryz.f233, Tryz.func233, adi, adi⟩,
  fun p cap w=>AnyQ.slices_Reverse_empty Tryz.eB p cap w,
  fun enc hk h1 blk off cap d w hH hsz=>AnyQ.slices_Reverse Tryz.eB 3 (fun w=>dy je w) (fun w=>dE bY w) enc hk h1 blk off cap d w hH hsz⟩
end Go.Proofs.YtlapahnodhmcpaaGreat
