/-
  Part of the proof.
-/
import Derived.Test.YtlapahnodhmcpaaGreatX1
import Derived.ProofKit
import Derived.OpenShut
import Derived.Handed
import Derived.Deep.Slices
import Derived.WideKeyArgs
import Derived.Lib.SliceRun
import Derived.RangeFuncLeaves
import Derived.Lib.AppendStr
import Derived.Shelf.SortM.Plain
import Derived.Shelf.SortM.SortNone
import Derived.Shelf.SlicesG.Reverse
set_option linter.unusedVariables false
set_option linter.unusedSectionVars false
set_option linter.unusedSimpArgs false
set_option maxRecDepth 100000
set_option maxHeartbeats 40000000
namespace Go.Am
open Go.RowKit Go.ChangeShapes Go.WideShapes Go.Deep
variable{α:Type}{v:Value}{b0:Nat}{D:Prop}
section
variable {H:Type} {enc:TypeId×Value→H}{P:Program}{w:World}{base:Nat}{spare:Nat→Bool}{held:Bool}
theorem DP {p:Nat→α→Prop}(n:Nat)(h:∀i,i<n→∃a,p i a):∃l:List α,l.length=n∧∀i a,l[i]?=some a→p i a:=by
 induction n with
 | zero=>exact⟨[],rfl,fun i a h=>by simp at h⟩
 | succ n ih =>
   obtain⟨l,hl,hp⟩:=ih fun i hi=>h i adh
   obtain⟨a,ha⟩:=h n adh;refine⟨l++[a],by simp[hl],fun i b hb=>?_⟩;rcases aa9 i n with hi|hi
   · rw [aa8 adh] at hb
     exact hp i b hb
   · rw [aa6 adh] at hb
     have:i-l.length=0:=by
       have:=(aa0.1 hb).1;simp at this;omega
     rw[this] at hb;simp only[abf,aaB] at hb;subst hb;rw[show i=n by omega];exact ha
theorem JU {ad:α→AV}{ok:α→Prop}{t e:TypeId}(ht:P.underlying t=some (.slice e))(hc:P.cellsOf e=1)(hleaf:∀a,AV.leaf (ad a)=true∧AV.cells (ad a)=[ad a])
   (hel:∀(n:Nat)(v:Value) x,DataW.trod enc P w base spare held n e [v]=some x→∃a,ok a∧bL w (fun _=>False) v (ad a)){n:Nat}{x:DataW H×List MemPlace}(h:DataW.trod enc P w base spare held n t [v]=some x) :
   ∃l:List α,(∀a∈l,ok a)∧l.length≤9223372036854775807∧bL w (fun _=>False) v (.sl (l.map ad)):=by
 rcases open_slice1 ht hc h with⟨h1,_⟩|⟨a,len,cap,m,n',V,D,Pl,h1,hb,hl,hm,hmm,hx,hall⟩
 · simp only [ac3, and_true] at h1
   subst h1;exact⟨[],fun a ha=>(by cases ha),(by simp),.sl none 0 0 [] 1 (fun _=>undef) J (aaD _) (fun x hx=>by cases hx) (fun h=>absurd h adh) (fun j d hd=>by simp[flat] at hd) (fun j d hd=>by simp[flat] at hd)⟩
 · simp only [ac3, and_true] at h1
   subst h1;have hlm:len≤m:=by rw[hmm];split<;>omega
   obtain⟨l,hll,hlp⟩:=DP (p:=fun i a=>ok a∧bL w (fun _=>False) (V i) (ad a)) len fun i hi=>hel n' (V i) _ (hall i adh).2
   have hfl:flat (l.map ad)=l.map ad:=by
     clear hll hlp
     induction l with
     | nil=>rfl
     | cons a r ih=>simp only[flat,abx,abQ] at ih ⊢;rw[ih,(hleaf a).2];rfl
   refine⟨l,fun a ha=>?_,by rw[hll];unfold maxLen at hm;omega,?_⟩
   · obtain ⟨i, hi, rfl⟩ := abF ha
     exact(hlp i _ (aaF hi)).1
   · refine .sl (some a) len cap _ 1 V (by simpa using hll) hl (fun x hx => ?_) (fun h0 => ?_) (fun j d hd => ?_) (fun j d hd => ?_)
     · obtain ⟨z, _, rfl⟩ := aa7.1 hx
       rw[(hleaf z).2];rfl
     · have h3 := (hall 0 adh).1
       have h4:w.cell? a=some (V 0):=by simpa[Addr.add] using h3
       obtain⟨b,o,sp⟩:=a;have hsp:sp=none:=World.cell?_spot h4;subst hsp;refine⟨b,o,rfl,fun hf=>hf,World.block_lt_of_cell? w ⟨b,o,none⟩ h4,fun j hj=>?_⟩;have:=(hall j adh).1;rwa [Addr.add_lit] at this
     · rw [hfl, aaI, aaH] at hd
       obtain⟨z,_,rfl⟩:=hd;exact(hleaf z).1
     · rw [hfl, aaI, aaH] at hd
       obtain⟨z,hz,rfl⟩:=hd;exact(hlp j z hz).2
theorem DQ {e:TypeId}(he:P.underlying e=some (.int .i64))(n:Nat)(v:Value)(x:DataW H×List MemPlace)(h:DataW.trod enc P w base spare held n e [v]=some x) :
  ∃z:Int,(-9223372036854775808≤z∧z≤9223372036854775807)∧bL w (fun _=>False) v (int z):=by
 obtain⟨z,h1,hx,hw⟩:=DataW.trod_int he h;simp only[ac3,and_true] at h1;subst h1;exact⟨z,bounds_i64 hw,.sc _ J⟩
theorem JV {t e:TypeId}{r:Reach}(ht:P.underlying t=some (.slice e))(hval:Value.okWide P w r b0 t v):v.cells.toList=[v]:=by obtain⟨a,len,cap,rfl⟩:=okWide_slice ht hval;rfl
theorem P5 {t:TypeId}{k:IntKind}{r:Reach}(ht:P.underlying t=some (.int k))(hval:Value.okWide P w r b0 t v):v.cells.toList=[v]:=by obtain⟨a,rfl⟩:=okWide_int ht hval;rfl
theorem r4 {t e:TypeId}{r:Reach}{d:DataW H}{ps:List MemPlace}(ht:P.underlying t=some (.slice e))(he:P.underlying e=some (.int .i64))(hc:bX P e=some 1)(hval:Value.okWide P w r b0 t v)(hd:DataW.Trod enc P w base spare held t v d ps) :
  ∃l:List Int,(∀a∈l,-9223372036854775808≤a∧a≤9223372036854775807)∧l.length≤9223372036854775807∧bL w (fun _=>False) v (.sl (l.map int)):=by
 obtain⟨n,hn⟩:=hd;rw[JV ht hval] at hn;exact JU ht (cQ hc) (fun a=>⟨rfl,rfl⟩) (DQ he) hn
theorem uk {t:TypeId}{r:Reach}{d:DataW H}{ps:List MemPlace}(ht:P.underlying t=some (.int .i64))(hval:Value.okWide P w r b0 t v)(hd:DataW.Trod enc P w base spare held t v d ps) :
  ∃z:Int,(-9223372036854775808≤z∧z≤9223372036854775807)∧bL w (fun _=>False) v (int z):=by
 obtain⟨n,hn⟩:=hd;rw[P5 ht hval] at hn;exact DQ ht _ _ _ hn
theorem rA (hl:laidOutB P=true){W W':World}{sp':Nat→Bool}:∀{ts:List TypeId}{vs:List Value}{ds:List (DataW H)}{ps:List MemPlace},(∀t∈ts,P.readableRec t=true∧t<P.types.size) →
   DataW.TrodAll enc P W base (fun _=>true) true ts vs ds ps→(∀p∈ps,W.sameAt W' p)→(∀p∈ps,sp' p.block=true)→DataW.TrodAll enc P W' base sp' true ts vs ds ps
 | [],[],[],_,_,h,_,_=>h
 | t :: ts, v :: vs, d :: ds, _, ht, ⟨p, q, h1, h2, e⟩, hs, hp => ⟨p, q, WideElems.Trod_stays hl (ht t aaJ).1 (ht t aaJ).2 h1 (fun x hx => hs x (by rw [e]; exact acx _ hx)) (fun x hx => hp x (by rw [e]; exact acx _ hx)),
     rA hl (fun t ht'=>ht t (aaW _ ht')) h2 (fun x hx=>hs x (by rw[e];exact acs _ hx)) (fun x hx=>hp x (by rw[e];exact acs _ hx)),e⟩
theorem DR {f:Func}{fid:FuncId}{s:ChangeSpec}{W:World}{args:Array Value}{ds gs:List (DataW H)}{before:List MemPlace}{tb:TypeId}(hl:laidOutB P=true)(hrec:(f.params.toList.all fun t=>P.readableRec t&&decide (t<P.types.size))=true)(hres:f.resultTypes=#[tb])(htb:P.underlying tb=some .bool)
  (hvars:s.vars=[])(hfn:s.fn H (ds++[])={ results:=[.lit (.bool true)],args:=ds,vars:=[] })(hW:DataW.Whole enc P f.params.toList s.vars false W args.toList ds gs before)
  (hcall:Calls P fid args W fun e W'=>∃v,e=.returned v∧bD D W.heap.size W W'∧iN P W' (fun b=>b<W.heap.size) (fun b=>b<W.heap.size) v (.p (bool true))) :
  Calls P fid args W fun e W'=>∃v,e=.returned v∧s.post enc P f false true false false W args v W':=by
 have hW':=hW;obtain⟨p,q,hA,hV,hps,hfz,hnd⟩:=hW;rw[hvars] at hV;obtain⟨hg,hq⟩:=trodVars_none hV;subst hg hq;refine hcall.mono fun e W' ⟨v,he,hb,hrv⟩=>⟨v,he,?_⟩
 have hv:v=.bool true:=by
  have h:bL W' _ v (bool true):=hrv;generalize hz:bool true=z at h;cases h<;>simp_all
 subst hv;have hlt:∀x∈p,x.block<W.heap.size:=fun x hx=>hA.lt x hx
 have htrue:∀(b:Nat)(sp:Nat→Bool)(hd:Bool),DataW.TrodAll enc P W' b sp hd f.resultTypes.toList ((Value.bool true).resultList f.resultTypes.size) (s.fn H (ds++[])).results []:=fun b sp hd=>by
  rw[hfn,hres];exact trodAll_cons_mk (shut_bool htb _) trodAll_mk0
 have hargs:∀sp:Nat→Bool,(∀x∈before,sp x.block=true)→DataW.TrodAll enc P W' 0 sp true f.params.toList args.toList (s.fn H (ds++[])).args p:=fun sp hsp=>by
  rw[hfn];refine rA hl (fun t ht=>?_) hA (fun x hx=>hb.toBelow.same (hlt x hx)) (fun x hx=>hsp x (by rw[hps];exact acx _ hx));have:=aa5.1 hrec t ht;simpa using this
 have hold:∀x∈before,(fun b=>decide (b<W.heap.size)) x.block=true:=fun x hx=>by simpa using hW'.lt x hx
 have hvr:∀sp:Nat→Bool,DataW.TrodVars enc P W' sp s.vars (s.fn H (ds++[])).vars []:=fun sp=>by rw[hfn,hvars];rfl
 refine⟨ds,[],before,[],p,[],hW',htrue _ _ _,hargs _ hold,hvr _,World.keptBut_mono (fun x hx=>hx) (hb.toBelow.frame _),fun _=>?_⟩;refine⟨ok_one (t:=tb) hres J (okWide_bool_mk htb _),_,_,([]++p)++[],⟨[]++p,[],trodAll_append (hargs _ (fun _ _=>rfl)) (htrue _ _ _),hvr _,rfl,?_,fun h=>by cases h⟩,?_⟩
 ·intro b off hp;have hp':MemPlace.cell b off∈before:=by rw[hps];simpa using hp
  exact(hb.toBelow.frozen (p:=⟨b,off,none⟩) (hW'.lt _ hp')).trans (hfz b off hp')
 ·intro x hx _;rw[hps];simpa using hx
end
def L8 (w:World)(M:Nat→Prop):List Value→List AV→Prop
 | [],[]=>True
 | v :: vs,d :: ds=>bL w M v d∧L8 w M vs ds
 | _,_=>False
theorem L8.get {w:World}{M:Nat→Prop}:∀{vs:List Value}{ds:List AV},L8 w M vs ds→vs.length=ds.length∧∀(j:Nat) d,ds[j]?=some d→bL w M (vs.getD j undef) d
 | [],[],_=>⟨rfl,fun j d hd=>by simp at hd⟩
 | v :: vs, d :: ds, h => by
   obtain⟨h1,h2⟩:=h;obtain⟨h3,h4⟩:=L8.get h2;refine⟨by simp[h3],fun j e he=>?_⟩;cases j with
   | zero=>simp only[abf,aaB] at he;subst he;exact h1
   | succ j=>exact h4 j e (by simpa using he)
variable{ds:List AV}
theorem au.use {P:Program}{f:FuncId}{r:RV}(h:au P f ds r){w:World}{vs:List Value}(hr:L8 w (fun _=>False) vs ds) :
  Calls P f vs.toArray w fun e w'=>∃v,e=.returned v∧Below w.heap.size w w'∧iN P w' (fun b=>b<w.heap.size) (fun b=>b<w.heap.size) v r :=
 h.2 w vs hr.get.1 hr.get.2
variable{m:Nat}
section
variable {P:Program} {w0:Fr}{M0:Nat→Prop}{s s':St}
def L9 (Q:Exit→St→Prop):Exit→St→Prop
 | .goto _,_=>False
 | e,s=>Q e s
theorem Gs {c:Code}{Q:Exit→St→Prop}(h:aw P w0 M0 c s (L9 Q)):aw P w0 M0 (.scope c) s Q:=by intro a w hs;refine rS (iU (h a w hs) fun e a' w' ⟨s',h1,h2⟩=>?_);cases e<;>first|exact h1.elim|exact⟨s',h1,h2⟩
theorem Gt {l:Nat}{Q:Exit→St→Prop}(h:Q .normal s):aw P w0 M0 (.label l) s Q:=fun a w hs=>JB ⟨s,h,hs⟩
section ops
variable {o:Oper} {ρ:Operand→Option SV}{ob:List (Nat×Ob)}{x y z:Operand}{T T' e:TypeId}{k q:IntKind}{a b:Int}{c:fX}
theorem Ma (ho:o.op=.binOp .shr T x y T')(hx:bg ρ x=some (.int k a))(hy:bg ρ y=some (.int q b))(hb:0≤b):Pure P w0 M0 o ρ ob (.v .pl (.sc (.int k (a.fdiv (2 ^ (min b.toNat k.bits)))))) :=
 eE ho hx hy rfl rfl (fun w=>by simp only[binOp_shr,Op.shift,if_neg (show ¬b<0 by omega),Sem.run_pure])
theorem c9 {c:fX}{a a':Int}(h:Pure P w0 M0 o ρ ob (.v c (.sc (.int k a))))(e:a=a'):Pure P w0 M0 o ρ ob (.v c (.sc (.int k a'))):=by subst e;exact h
abbrev Ia (n:Int):AV:=.sc (.int .u8 n)
theorem xq:∀ l:List Int,rZ (l.map Ia)=some l
 | []=>rfl
 | n :: r => by
   show(match rZ (r.map Ia) with|some l=>some (n :: l)|none=>none)=_;rw[xq r]
theorem Gu {l:List Int}(ho:o.op=.convert T T' x)(hT:P.underlying T=some (.slice e))(he:P.underlying e=some (.int .u8))(hT':P.underlying T'=some .string)(hx:viewAt ρ ob x=some (c,.sl (l.map Ia))) :
 Pure P w0 M0 o ρ ob (.v .pl (ak (l.map fun n=>UInt8.ofNat n.toNat))):=uj ho hT he hT' hx (xq l)
theorem qD {va:Option Addr}{n n' m':Nat}(ho:o.op=.binOp .eql T x y T')(hT:P.underlying T=some (.slice e))(hx:bg ρ x=some (.slice va n m))(hy:bg ρ y=some (.slice none n' m')):Pure P w0 M0 o ρ ob (.v .pl (bool va.isNone)) :=
 aJ fun E w ev hw h=>by
  have hxv:ev x=.slice va n m:=bZ h hx;have hyv:ev y=.slice none n' m':=bZ h hy;exact⟨.bool va.isNone,w,by simp[execOp,ho,hxv,hyv,eqGuard,Lib.run_eql_slice_nil w _ _ _ _ _ _ _ hT],.refl _ _,.sc _ J⟩
theorem sZ {xs:List AV}{n' m':Nat}(ho:o.op=.binOp .eql T x y T')(hT:P.underlying T=some (.slice e))(hx:viewAt ρ ob x=some (c,.sl xs))(hy:bg ρ y=some (.slice none n' m'))(h0:0<xs.length):Pure P w0 M0 o ρ ob (.v .pl (bool false)) :=
 aJ fun E w ev hw h=>by
   have hr:=cG hw h hx;have hyv:ev y=.slice none n' m':=bZ h hy;generalize hq:ev x=q at hr;cases hr with
   | sl a n cap _ k cv hn hc hk hb hl hr =>
     obtain⟨b,of,rfl,_⟩:=hb adh;exact⟨.bool false,w,by simp[execOp,ho,hq,hyv,eqGuard,Lib.run_eql_slice_nil w _ _ _ _ _ _ _ hT],.refl _ _,.sc _ J⟩
theorem Ib {s:St}{y:Operand}{va:Option Addr}{k:Nat}(hy:bg s.ev y=some (.slice va 0 m)):Src P w0 M0 s y k []:=by intro E a w hs;have hv:a.eval y=.slice va 0 m:=bZ (ρ:=s.ev) (ob:=s.o) (fun x e hx=>hs.ev hx) hy;exact⟨va,0,m,[],hv,rfl,by simp,fun h=>absurd h adh,fun x hx=>(by cases hx),fun j d hd=>(by simp[flat] at hd)⟩
end ops
end
open Go.RowKit
def rn (ρ:List (Nat×Nat))(a:Nat):Nat:=(ρ.lookup a).getD a
def SV.kh (ρ:List (Nat×Nat)):SV→SV
 | .own i=>.own (rn ρ i)
 | .pel i j k=>.pel (rn ρ i) j k
 | .pbox i k=>.pbox (rn ρ i) k
 | .omap i=>.omap (rn ρ i)
 | .vsl i j k=>.vsl (rn ρ i) j k
 | .fn f caps => .fn f (caps.map fun c => match c with
   | .bx i=>.bx (rn ρ i)
   | .ow i=>.ow (rn ρ i)
   | .om i=>.om (rn ρ i)
   | c=>c)
 | .hid f caps => .hid f (caps.map fun c => match c with
   | .bx i=>.bx (rn ρ i)
   | .ow i=>.ow (rn ρ i)
   | .om i=>.om (rn ρ i)
   | c=>c)
 | .nst i=>.nst (rn ρ i)
 | .nel i j=>.nel (rn ρ i) j
 | d=>d
def vt (ρ:List (Nat×Nat)):Option (Nat×eh)→Option (Nat×eh)
 | some (j,.arr u)=>some (j,.arr (rn ρ u))
 | some (j,.map u)=>some (j,.map (rn ρ u))
 | ln=>ln
def Ob.kh (ρ:List (Nat×Nat)):Ob→Ob
 | .box e cs=>.box e (cs.map (SV.kh ρ))
 | .nar e cs ln=>.nar e cs (vt ρ ln)
 | .nmp ks cs ln=>.nmp ks cs (vt ρ ln)
 | ob=>ob
def Ob.kind:Ob→Nat
 | .arr _ _=>0
 | .box _ _=>1
 | .mp _ _=>2
 | .nar _ _ _=>3
 | .nmp _ _ _=>4
def SV.safe (ids:List Nat):SV→Bool
 | .v .vw _=>false
 | .own i=>!ids.contains i
 | .pel i _ _=>!ids.contains i
 | .vsl i _ _=>!ids.contains i
 | .nst i=>!ids.contains i
 | .nel i _=>!ids.contains i
 | .fn _ caps => caps.all fun c => match c with
   | .ow i=>!ids.contains i
   | _=>true
 | .hid _ caps => caps.all fun c => match c with
   | .ow i=>!ids.contains i
   | _=>true
 | _=>true
def SV.plain (ks:List Nat):SV→Bool
 | .v .pl _=>true
 | .v _ (.sc _)=>true
 | .v _ _=>false
 | .own i=>ks.contains i
 | .pel i _ _=>ks.contains i
 | .pbox i _=>ks.contains i
 | .omap i=>ks.contains i
 | .vsl i _ _=>ks.contains i
 | .fn _ caps => caps.all fun c => match c with
   | .bx i=>ks.contains i
   | .ow i=>ks.contains i
   | .om i=>ks.contains i
   | _=>true
 | .hid _ caps => caps.all fun c => match c with
   | .bx i=>ks.contains i
   | .ow i=>ks.contains i
   | .om i=>ks.contains i
   | _=>true
 | .nst i=>ks.contains i
 | .nel i _=>ks.contains i
 | .dead=>true
def BZ (ks:List Nat):Option (Nat×eh)→Bool
 | some (_,.arr u)=>ks.contains u
 | some (_,.map _)=>false
 | _=>true
def Ob.plain (ks:List Nat):Ob→Bool
 | .box _ cs=>cs.all (SV.plain ks)
 | .nar _ _ ln=>BZ ks ln
 | .nmp _ _ ln=>BZ ks ln
 | _=>true
def s4 (ids:List Nat):Option (Nat×eh)→Option (Nat×eh)
 | some (j,.arr u)=>some (j,if ids.contains u then .no else .arr u)
 | ln=>ln
def Ob.after (ids:List Nat):Ob→Ob
 | .box e cs=>.box e (cs.map fun d=>if d.safe ids then d else .dead)
 | .nar e cs ln=>.nar e cs (s4 ids ln)
 | .nmp ks cs ln=>.nmp ks cs (s4 ids ln)
 | ob=>ob
def zG (ρ:List (Nat×Nat))(oc:List (Nat×Ob)):List (Nat×Ob):=oc.map fun p=>(rn ρ p.1,p.2.kh ρ)
def cY (ρ:List (Nat×Nat))(oc:List (Nat×Ob)):List Nat:=oc.map fun p=>rn ρ p.1
def St.after (s:St)(ρ:List (Nat×Nat))(oc:List (Nat×Ob)):St :=
 { n:=s.n,s:=s.s.filter (fun p=>p.2.safe (cY ρ oc)),o:=s.o.map fun p=>(p.1,((zG ρ oc).lookup p.1).getD (p.2.after (cY ρ oc))) }
def ju:List Nat→Bool
 | []=>true
 | x :: r=>!r.contains x&&ju r
def lB (P:Program)(f:FuncId)(args:List SV)(o:List (Nat×Ob))(r:SV)(o':List (Nat×Ob)):Prop :=
 cq P f∧∀(w0:Fr)(M0:Nat→Prop)(E:Env)(w:World)(vs:List Value),(∀b,M0 b→b<w0.w.heap.size)→gu P w0 M0 E o w→vs.length=args.length →
   (∀(j:Nat) d,args[j]?=some d→bm P M0 w E o (vs.getD j undef) d)→Calls P f vs.toArray w fun e w'=>∃v E',e=.returned v∧gu P w0 M0 E' o' w'∧bm P M0 w' E' o' v r
theorem dJ {α:Type}:∀{l:List (Nat×α)}{a:Nat}{x:α},l.lookup a=some x→(a,x)∈l
 | (b, y) :: r, a, x, h => by
   rw[aq] at h;split at h
   · rename_i he;subst he;simp only[aaB] at h;subst h;exact aaJ
   · exact aaW _ (dJ h)
theorem ox {α:Type}{f:Nat×α→Nat}:∀{l:List (Nat×α)},ju (l.map f)=true→∀{p q:Nat×α},p∈l→q∈l→f p=f q→p=q
 | x :: r, h, p, q, hp, hq, he => by
   simp only[abx,ju,aaZ,abw,acd,decide_eq_false_iff_not] at h;rcases aa3.1 hp with hp1|hp1
   · rcases aa3.1 hq with hq1 | hq1
     · rw[hp1,hq1]
     · exact absurd (aa7.2 ⟨q,hq1,by rw[←he,hp1]⟩) h.1
   · rcases aa3.1 hq with hq1 | hq1
     · exact absurd (aa7.2 ⟨p,hp1,by rw[he,hq1]⟩) h.1
     · exact ox h.2 hp1 hq1 he
theorem An {ρ:List (Nat×Nat)}{i:Nat}:∀{oc:List (Nat×Ob)},(cY ρ oc).contains i=false→(zG ρ oc).lookup i=none
 | [],_=>rfl
 | (a, ob) :: r, h => by
   simp only[cY,abx,List.contains_cons,Bool.or_eq_false_iff,beq_eq_false_iff_ne] at h;simp only[zG,abx];rw[aq,if_neg h.1];exact An h.2
theorem Ao {ρ:List (Nat×Nat)}{a:Nat}{ob:Ob}:∀{oc:List (Nat×Ob)},ju (cY ρ oc)=true→(a,ob)∈oc→(zG ρ oc).lookup (rn ρ a)=some (ob.kh ρ)
 | (b, y) :: r, h, hm => by
   have h':=h;simp only[cY,abx,ju,aaZ,abw,acd,decide_eq_false_iff_not] at h';simp only[zG,abx];rw[aq];rcases aa3.1 hm with he|hm
   · simp only [abP] at he
     rw[if_pos (by rw[he.1]),he.2]
   · rw [if_neg]
     · exact Ao h'.2 hm
     · intro he;exact h'.1 (aa7.2 ⟨_,hm,he⟩)
variable{i:Nat}
theorem mR {ρ:List (Nat×Nat)}{oc:List (Nat×Ob)}(h:(cY ρ oc).contains i=true):∃a ob,(a,ob)∈oc∧rn ρ a=i:=by rw[acd,decide_eq_true_eq] at h;obtain⟨p,hp,he⟩:=aa7.1 h;exact⟨p.1,p.2,hp,he⟩
section
variable {P:Program} {w0:Fr}{M0:Nat→Prop}{E E':Env}{s:St}{a0:Act}{w w':World}{ρ:List (Nat×Nat)}{oc oc':List (Nat×Ob)}
def fJ (E:Env)(ρ:List (Nat×Nat)):Env:=⟨fun a=>E.cur (rn ρ a),fun a=>E.blk (rn ρ a),fun a=>E.sub (rn ρ a)⟩
def Tp (D:Prop)(w:World)(E:Env)(oc:List (Nat×Ob)):Fr :=
 ⟨w,fun b=>b<w.heap.size∧¬owned E oc b,fun _ h=>h.1,(oc.filter fun p=>decide (1000000≤p.1)).map fun p=>(p.1,E.blk p.1),fun x hx=>by
   obtain⟨p,hp,rfl⟩:=aa7.1 hx;simpa using(abA.1 hp).2,D,.plain⟩
def Lx (M0:Nat→Prop)(own ownc:Nat→Prop)(b:Nat):Prop:=M0 b∨(own b∧¬ownc b)
theorem um (ln:Option (Nat×eh)):(vt ρ ln).map (·.1)=ln.map (·.1):=by
 cases ln with
 | none=>rfl
 | some p=>obtain⟨j,l⟩:=p;cases l<;>rfl
theorem vu (ids:List Nat)(ln:Option (Nat×eh)):(s4 ids ln).map (·.1)=ln.map (·.1):=by
 cases ln with
 | none=>rfl
 | some p=>obtain⟨j,l⟩:=p;cases l<;>rfl
theorem iX {f:Nat→Value}{b:Nat}{cs:List Cell}{ln:Option (Nat×eh)}:fY f b cs (vt ρ ln)↔fY f b cs ln:=by unfold fY;rw[um]
theorem oy {ids:List Nat}{f:Nat→Value}{b:Nat}{cs:List Cell}{ln:Option (Nat×eh)}:fY f b cs (s4 ids ln)↔fY f b cs ln:=by unfold fY;rw[vu]
theorem pG {E:Env}{a b:Nat}{ob:Ob}:bG (fJ E ρ) a b ob↔bG E (rn ρ a) b (ob.kh ρ):=by
 cases ob with
 | nar e cs ln=>simp only[bG,fJ,Ob.kh,iX]
 | nmp ks cs ln=>simp only[bG,fJ,Ob.kh,iX]
 | _=>simp only[bG,fJ,Ob.kh]
theorem eZ (hob:∀a ob,oc.lookup a=some ob→s.o.lookup (rn ρ a)=some (ob.kh ρ)){b:Nat}(h:owned (fJ E ρ) oc b):owned E s.o b:=by obtain⟨a,ob,h1,h2⟩:=h;exact⟨rn ρ a,ob.kh ρ,hob a ob h1,pG.1 h2⟩
theorem oz (hob:∀a ob,oc.lookup a=some ob→s.o.lookup (rn ρ a)=some (ob.kh ρ))(c:fX):∀b,cI (Lx M0 (owned E s.o) (owned (fJ E ρ) oc)) (owned (fJ E ρ) oc) c b→cI M0 (owned E s.o) c b:=by
 intro b hb;cases c with
 | pl =>
   rcases hb with(hb|hb)|hb
   · exact .inl hb
   · exact .inr hb.1
   · exact .inr (eZ hob hb)
 | mx=>exact eZ hob hb
 | vw=>exact hb
theorem Mb (hob:∀a ob,oc.lookup a=some ob→s.o.lookup (rn ρ a)=some (ob.kh ρ)){d:SV}(h:bm P M0 w E s.o v (d.kh ρ)):bm P (Lx M0 (owned E s.o) (owned (fJ E ρ) oc)) w (fJ E ρ) oc v d:=by
 cases d with
 | v c d=>exact bL.cm h (oz hob c)
 | own i=>exact fun e xs hl=>h e xs (hob i _ hl)
 | pel i j k=>exact fun e xs hl=>h e xs (hob i _ hl)
 | pbox i k=>exact fun e cs hl=>h e _ (hob i _ hl)
 | omap i=>exact fun ks vs hl=>h ks vs (hob i _ hl)
 | vsl i j k=>exact fun e xs hl=>h e xs (hob i _ hl)
 | fn f caps =>
   obtain⟨vs,h1,h2,h3⟩:=h;refine⟨vs,h1,by simpa using h2,fun j c hc=>?_⟩;have h4:=h3 j _ (by rw[aaI,hc];rfl);cases c with
   | bx id=>exact fun e cs hl=>h4 e _ (hob id _ hl)
   | pl d=>exact bL.cm h4 (oz hob .pl)
   | ow id=>exact fun e xs hl=>h4 e xs (hob id _ hl)
   | om id=>exact fun ks vs hl=>h4 ks vs (hob id _ hl)
 | hid f caps =>
   obtain⟨vs,h1,h2,h3⟩:=h;refine⟨vs,h1,by simpa using h2,fun j c hc=>?_⟩;have h4:=h3 j _ (by rw[aaI,hc];rfl);cases c with
   | bx id=>exact fun e cs hl=>h4 e _ (hob id _ hl)
   | pl d=>exact bL.cm h4 (oz hob .pl)
   | ow id=>exact fun e xs hl=>h4 e xs (hob id _ hl)
   | om id=>exact fun ks vs hl=>h4 ks vs (hob id _ hl)
 | nst i=>exact⟨fun e cs ln hl=>h.1 e _ _ (hob i _ hl),fun ks cs ln hl=>h.2 ks _ _ (hob i _ hl)⟩
 | nel i j=>exact fun e cs ln hl=>h e _ _ (hob i _ hl)
 | dead=>trivial
theorem Mc {ln:Option (Nat×eh)}:nq E (fJ E ρ) (vt ρ ln) ln:=by
 refine⟨(um ln).symm,fun j u hu=>?_,fun j u hu=>?_⟩
 ·subst hu;exact⟨_,rfl,rfl⟩
 ·subst hu;exact⟨_,rfl,rfl⟩
theorem wC (hw:gu P w0 M0 E s.o w)(hob:∀a ob,oc.lookup a=some ob→s.o.lookup (rn ρ a)=some (ob.kh ρ))(hinj:ju (cY ρ oc)=true) :
   gu P (Tp w0.dr w (fJ E ρ) oc) (Lx M0 (owned E s.o) (owned (fJ E ρ) oc)) (fJ E ρ) oc w:=by
 have free:∀{b:Nat},owned (fJ E ρ) oc b→mK w0 M0 b→mK (Tp w0.dr w (fJ E ρ) oc) (Lx M0 (owned E s.o) (owned (fJ E ρ) oc)) b:=fun ho hf =>
   ⟨fun hk=>hk.2 ho,fun hm=>hm.elim (fun h=>hf.2 h) fun h=>h.2 ho⟩
 refine⟨fun a ob ha=>?_,fun a ob a' ob' b h1 h2 h3 h4=>?_,.refl _ _,fun x hx=>?_⟩
 · have h0 := hw.objs (rn ρ a) _ (hob a ob ha)
   cases ob with
   | arr e xs =>
     obtain⟨vals,h1,h2,h3⟩:=h0;exact⟨vals,⟨h1.1,fun b hb=>free ⟨a,_,ha,hb⟩ (h1.2 b hb)⟩,h2,fun j d hd=>⟨(h3 j d hd).1,(h3 j d hd).2.cm (oz hob .pl)⟩⟩
   | box e cs =>
     obtain⟨vals,h1,h2,h3,h4⟩:=h0;refine⟨vals,h1,free ⟨a,_,ha,rfl⟩ h2,by simpa using h3,fun j d hd=>?_⟩;have:=h4 j (d.kh ρ) (by rw[aaI,hd];rfl);refine⟨?_,this.2.1,Mb hob this.2.2⟩;have h5:=this.1;cases d<;>simp_all [SV.kh,SV.leaf]
   | mp ks vs =>
     obtain⟨es,clock,h1,h2,h3,h4,h5⟩:=h0;exact⟨es,clock,h1,free ⟨a,_,ha,rfl⟩ h2,h3,h4,fun j d hd=>(h5 j d hd).cm (oz hob .pl)⟩
   | nar e cs ln =>
     obtain⟨n,vals,h1,h2,h3,h4,h5⟩:=h0;exact⟨n,vals,⟨h1.1,fun b hb=>free ⟨a,_,ha,.inl hb⟩ (h1.2 b hb)⟩,h2,h3,h4.go Mc (fun _ _=>rfl) (fun b hb hf=>free ⟨a,_,ha,.inr (iX.1 hb)⟩ hf) (fun v d hr=>hr.cm (oz hob .pl)),fun b hb=>h5 b (iX.2 hb)⟩
   | nmp ks cs ln =>
     obtain⟨es,clock,h1,h2,h3,h4,h5,h6,h7⟩:=h0;exact⟨es,clock,h1,free ⟨a,_,ha,.inl J⟩ h2,h3,h4,h5,h6.go Mc (fun _ _=>rfl) (fun b hb hf=>free ⟨a,_,ha,.inr (iX.1 hb)⟩ hf) (fun v d hr=>hr.cm (oz hob .pl)),fun b hb=>h7 b (iX.2 hb)⟩
 · have := hw.disj _ _ _ _ b (hob a ob h1) (hob a' ob' h2) (pG.1 h3) (pG.1 h4)
   exact congrArg Prod.fst (ox hinj (dJ h1) (dJ h2) this)
 · obtain ⟨p, hp, rfl⟩ := aa7.1 hx
   rfl
theorem vv {α β:Type}(f:Nat→α→β)(i:Nat):∀l:List (Nat×α),(l.map fun p=>(p.1,f p.1 p.2)).lookup i=(l.lookup i).map (f i)
 | []=>rfl
 | (a, x) :: r => by
   simp only[abx];rw[aq,aq,vv f i r];split
   · rename_i h;subst h;rfl
   · rfl
theorem bP {ob:Ob}{a:Nat}:∀{l:List (Nat×Ob)},ju (cY ρ l)=true→(a,ob)∈l→l.lookup a=some ob
 | (b, y) :: r, h, hm => by
   have h':=h;simp only[cY,abx,ju,aaZ,abw,acd,decide_eq_false_iff_not] at h';rw[aq];rcases aa3.1 hm with he|hm
   · simp only [abP] at he
     rw[if_pos he.1,he.2]
   · rw [if_neg]
     · exact bP h'.2 hm
     · exact fun he=>h'.1 (aa7.2 ⟨(a,ob),hm,by rw[he]⟩)
theorem ba.after (hs:ba P w0 M0 E s a0 w)(hnd:Nodup s.s=true)(hob:∀a ob,oc.lookup a=some ob→s.o.lookup (rn ρ a)=some (ob.kh ρ))(hinj:ju (cY ρ oc)=true)(hsame:oc.map (fun p=>(p.1,p.2.kind))=oc'.map (fun p=>(p.1,p.2.kind)))
   (hbig:oc.all (fun p=>Nat.beq p.2.kind 0||Nat.ble 1000000 p.1)=true)(hpl:oc'.all (fun p=>p.2.plain (oc'.map (·.1)))=true)
   (hw':gu P (Tp w0.dr w (fJ E ρ) oc) (Lx M0 (owned E s.o) (owned (fJ E ρ) oc)) E' oc' w') :
   ∃E'',ba P w0 M0 E'' (s.after ρ oc') a0 w'∧∀v d,d.plain (oc'.map (·.1))=true→bm P (Lx M0 (owned E s.o) (owned (fJ E ρ) oc)) w' E' oc' v d→bm P M0 w' E'' (s.after ρ oc').o v (d.kh ρ):=by
 have hids:cY ρ oc'=cY ρ oc:=by
   have:=congrArg (List.map (fun q:Nat×Nat=>rn ρ q.1)) hsame;simpa[cY,acu,ac9] using this.symm
 have hinj':ju (cY ρ oc')=true:=by rw[hids];exact hinj
 have old:∀{a ob},(a,ob)∈oc'→∃ob0,oc.lookup a=some ob0∧ob0.kind=ob.kind:=by
   intro a ob hm;have:(a,ob.kind)∈oc.map (fun p=>(p.1,p.2.kind)):=by rw[hsame];exact aa7.2 ⟨_,hm,rfl⟩
   obtain⟨p,hp,he⟩:=aa7.1 this;simp only[abP] at he;refine⟨p.2,bP hinj ?_,he.2⟩;rw[←he.1];exact hp
 have hwc:=wC hs.wok hob hinj
 let E'' : Env := { E with
   cur:=fun i=>(match oc'.find? (fun p=>rn ρ p.1 == i) with
     | some p=>E'.cur p.1
     | none=>E.cur i)
   sub:=fun i=>(match oc'.find? (fun p=>rn ρ p.1 == i) with
     | some p=>E'.sub p.1
     | none=>E.sub i) }
 have cur1:∀{a ob},(a,ob)∈oc'→E''.cur (rn ρ a)=E'.cur a:=by
   intro a ob hm;show(match oc'.find? (fun p=>rn ρ p.1 == rn ρ a) with|some p=>E'.cur p.1|none=>E.cur (rn ρ a))=_;cases hf:oc'.find? (fun p=>rn ρ p.1 == rn ρ a) with
   | none=>have:=ac6.1 hf _ hm;simp at this
   | some p =>
     have h1:=List.find?_some hf;have h2:=acm hf;have:=ox (f:=fun p:Nat×Ob=>rn ρ p.1) hinj' h2 hm (by simpa using h1);rw[this]
 have cur2:∀{i},(cY ρ oc').contains i=false→E''.cur i=E.cur i:=by
   intro i hi;show(match oc'.find? (fun p=>rn ρ p.1 == i) with|some p=>E'.cur p.1|none=>E.cur i)=_;cases hf:oc'.find? (fun p=>rn ρ p.1 == i) with
   | none=>rfl
   | some p =>
     have h1:=List.find?_some hf;have h2:=acm hf;rw[acd,decide_eq_false_iff_not] at hi;exact absurd (aa7.2 ⟨p,h2,by simpa using h1⟩) hi
 have sub1:∀{a ob},(a,ob)∈oc'→E''.sub (rn ρ a)=E'.sub a:=by
   intro a ob hm;show(match oc'.find? (fun p=>rn ρ p.1 == rn ρ a) with|some p=>E'.sub p.1|none=>E.sub (rn ρ a))=_;cases hf:oc'.find? (fun p=>rn ρ p.1 == rn ρ a) with
   | none=>have:=ac6.1 hf _ hm;simp at this
   | some p =>
     have h1:=List.find?_some hf;have h2:=acm hf;have:=ox (f:=fun p:Nat×Ob=>rn ρ p.1) hinj' h2 hm (by simpa using h1);rw[this]
 have sub2:∀{i},(cY ρ oc').contains i=false→E''.sub i=E.sub i:=by
   intro i hi;show(match oc'.find? (fun p=>rn ρ p.1 == i) with|some p=>E'.sub p.1|none=>E.sub i)=_;cases hf:oc'.find? (fun p=>rn ρ p.1 == i) with
   | none=>rfl
   | some p =>
     have h1:=List.find?_some hf;have h2:=acm hf;rw[acd,decide_eq_false_iff_not] at hi;exact absurd (aa7.2 ⟨p,h2,by simpa using h1⟩) hi
 have blk:∀{a ob},(a,ob)∈oc'→ob.kind≠0→E'.blk a=E.blk (rn ρ a):=by
   intro a ob hm hk;obtain⟨ob0,h1,h2⟩:=old hm;have h3:=aa5.1 hbig _ (dJ h1);have h4:1000000≤a:=by
     rw[abC] at h3;rcases h3 with h3|h3
     · have:=aby h3;simp only at this;omega
     · exact aaz h3
   have:=hw'.pins (a,(fJ E ρ).blk a) (aa7.2 ⟨(a,ob0),abA.2 ⟨dJ h1,by simpa using h4⟩,rfl⟩);exact this
 have look:∀i,(s.after ρ oc').o.lookup i=(s.o.lookup i).map fun ob=>((zG ρ oc').lookup i).getD (ob.after (cY ρ oc')):=fun i=>vv (fun i ob=>((zG ρ oc').lookup i).getD (Ob.after (cY ρ oc') ob)) i s.o
 have look1:∀{a ob},(a,ob)∈oc'→(s.after ρ oc').o.lookup (rn ρ a)=some (ob.kh ρ):=by
   intro a ob hm;obtain⟨ob0,h1,_⟩:=old hm;rw[look,hob a ob0 h1,Ao hinj' hm];rfl
 have look2:∀{i},(cY ρ oc').contains i=false→(s.after ρ oc').o.lookup i=(s.o.lookup i).map (Ob.after (cY ρ oc')):=by
   intro i hi;rw[look,An hi];rfl
 have ownE1:∀{a ob b},(a,ob)∈oc'→bG E'' (rn ρ a) b (ob.kh ρ)→bG E' a b ob:=by
   intro a ob b hm h;cases ob with
   | arr e xs=>have:=cur1 hm;simp only[Ob.kh,bG] at h ⊢;rw[←this];exact h
   | box e cs=>have:=blk hm (by simp[Ob.kind]);simp only[Ob.kh,bG] at h ⊢;rw[this];exact h
   | mp ks vs=>have:=blk hm (by simp[Ob.kind]);simp only[Ob.kh,bG] at h ⊢;rw[this];exact h
   | nar e cs ln=>simp only[Ob.kh,bG,iX] at h ⊢;rw[cur1 hm,sub1 hm] at h;exact h
   | nmp ks cs ln=>have:=blk hm (by simp[Ob.kind]);simp only[Ob.kh,bG,iX] at h ⊢;rw[sub1 hm] at h;rw[this];exact h
 have ownE2:∀{i ob b},(cY ρ oc').contains i=false→bG E'' i b (Ob.after (cY ρ oc') ob)→bG E i b ob:=by
   intro i ob b hi h;cases ob with
   | arr e xs=>have:=cur2 hi;simp only[Ob.after,bG] at h ⊢;rw[←this];exact h
   | box e cs=>exact h
   | mp ks vs=>exact h
   | nar e cs ln=>simp only[Ob.after,bG,oy] at h ⊢;rw[cur2 hi,sub2 hi] at h;exact h
   | nmp ks cs ln=>simp only[Ob.after,bG,oy] at h ⊢;rw[sub2 hi] at h;exact h
 have notc:∀{i ob b},(cY ρ oc').contains i=false→s.o.lookup i=some ob→bG E i b ob→¬owned (fJ E ρ) oc b:=by
   rintro i ob b hi hl hb ⟨a,ob0,h1,h2⟩;have:=hs.wok.disj i ob (rn ρ a) _ b hl (hob a ob0 h1) hb (pG.1 h2);rw[hids,acd,decide_eq_false_iff_not] at hi;exact hi (aa7.2 ⟨_,dJ h1,this.symm⟩)
 have split:∀{i ob b},(s.after ρ oc').o.lookup i=some ob→bG E'' i b ob→(∃a obc,(a,obc)∈oc'∧rn ρ a=i∧ob=obc.kh ρ∧bG E' a b obc)∨((cY ρ oc').contains i=false∧∃ob0,s.o.lookup i=some ob0∧ob=ob0.after (cY ρ oc')∧bG E i b ob0):=by
   intro i ob b hl hb;cases hi:(cY ρ oc').contains i with
   | true =>
     obtain⟨a,obc,hm,rfl⟩:=mR hi;rw[look1 hm] at hl;simp only[aaB] at hl;subst hl;exact .inl ⟨a,obc,hm,rfl,rfl,ownE1 hm hb⟩
   | false =>
     rw[look2 hi,aaH] at hl;obtain⟨ob0,h1,rfl⟩:=hl;exact .inr ⟨rfl,ob0,h1,rfl,ownE2 hi hb⟩
 have own9:∀{b},owned E'' (s.after ρ oc').o b→owned E' oc' b∨(owned E s.o b∧¬owned (fJ E ρ) oc b):=by
   rintro b ⟨i,ob,hl,hb⟩;rcases split hl hb with⟨a,obc,hm,_,_,h2⟩|⟨hi,ob0,h1,_,h2⟩
   · exact .inl ⟨a,obc,bP hinj' hm,h2⟩
   · exact .inr ⟨⟨i,ob0,h1,h2⟩,notc hi h1 h2⟩
 have own10:∀{b},owned E' oc' b→owned (fJ E ρ) oc b∨w.heap.size≤b:=by
   intro b hb;have h1:=(hw'.bH hb).1.1;rcases aa9 b w.heap.size with h2|h2
   · exact .inl (Classical.byContradiction fun hn=>h1 ⟨h2,hn⟩)
   · exact .inr h2
 have free:∀{b},mK (Tp w0.dr w (fJ E ρ) oc) (Lx M0 (owned E s.o) (owned (fJ E ρ) oc)) b→mK w0 M0 b:=by
   rintro b ⟨h1,h2⟩;refine⟨fun hk=>h1 ⟨by have:=w0.hK b hk;have:=hs.wok.below.size;omega,fun ho=>?_⟩,fun hm=>h2 (.inl hm)⟩;exact(hs.wok.bH (eZ hob ho)).1.1 hk
 have kept:∀{b},b<w.heap.size→¬owned (fJ E ρ) oc b→w'.heap[b]?=w.heap[b]?:=fun h1 h2=>hw'.below.block _ ⟨h1,h2⟩
 have rep:∀(c:fX) v d,c≠.vw→bL w (cI M0 (owned E s.o) c) v d→bL w' (cI M0 (owned E'' (s.after ρ oc').o) c) v d:=by
   intro c v d hc hr;have hown:∀b,b<w.heap.size→owned E'' (s.after ρ oc').o b→owned E s.o b:=by
     intro b hb ho;rcases own9 ho with h1|h1
     · rcases own10 h1 with h2 | h2
       · exact eZ hob h2
       · omega
     · exact h1.1
   refine hr.mono hw'.below.size (fun b hb hn=>kept hb fun ho=>?_) (fun b hb hn hm=>?_)
   · cases c with
     | pl=>exact hn (.inr (eZ hob ho))
     | mx=>exact hn (eZ hob ho)
     | vw=>exact hc rfl
   · cases c with
     | pl=>exact hm.elim (fun h=>hn (.inl h)) fun h=>hn (.inr (hown b hb h))
     | mx=>exact hn (hown b hb hm)
     | vw=>exact hc rfl
 have back:∀v d,d.plain (oc'.map (·.1))=true→bm P (Lx M0 (owned E s.o) (owned (fJ E ρ) oc)) w' E' oc' v d→bm P M0 w' E'' (s.after ρ oc').o v (d.kh ρ):=by
   intro v d hp h;have key:∀{a},(oc'.map (·.1)).contains a=true→∃ob,(a,ob)∈oc':=by
     intro a ha;rw[acd,decide_eq_true_eq] at ha;obtain⟨p,hp,rfl⟩:=aa7.1 ha;exact⟨p.2,hp⟩
   cases d with
   | v c d =>
     have hsc:∀{u c'},bL w' c' v (.sc u)→bL w' (cI M0 (owned E'' (s.after ρ oc').o) c) v (.sc u):=fun h=>by cases h;exact .sc _ ‹_›
     cases c with
     | pl =>
       refine bL.cm h fun b hb=>?_
       rcases hb with hb|hb
       · exact .inl (.inl hb)
       · exact(own9 hb).elim .inr fun h1=>.inl (.inr h1)
     | mx=>cases d<;>first|exact hsc h|cases hp
     | vw=>cases d<;>first|exact hsc h|cases hp
   | own a =>
     obtain⟨ob,hm⟩:=key hp;intro e xs hl;rw[look1 hm] at hl;cases ob<;>simp only[Ob.kh,aaB,reduceCtorEq] at hl;cases hl;rw[cur1 hm];exact h e xs (bP hinj' hm)
   | pel a j k =>
     obtain⟨ob,hm⟩:=key hp;intro e xs hl;rw[look1 hm] at hl;cases ob<;>simp only[Ob.kh,aaB,reduceCtorEq] at hl;cases hl;rw[cur1 hm];exact h e xs (bP hinj' hm)
   | vsl a j k =>
     obtain⟨ob,hm⟩:=key hp;intro e xs hl;rw[look1 hm] at hl;cases ob<;>simp only[Ob.kh,aaB,reduceCtorEq] at hl;cases hl;rw[cur1 hm];exact h e xs (bP hinj' hm)
   | pbox a k =>
     obtain⟨ob,hm⟩:=key hp;intro e cs hl;rw[look1 hm] at hl;cases ob with
     | box e0 cs0 =>
       have:=blk hm (by simp[Ob.kind]);show v=.pointer (some ⟨E.blk (rn ρ a),k,none⟩);rw[←this];exact h e0 cs0 (bP hinj' hm)
     | _=>simp[Ob.kh] at hl
   | omap a =>
     obtain⟨ob,hm⟩:=key hp;intro ks vs hl;rw[look1 hm] at hl;cases ob with
     | mp k0 v0 =>
       have:=blk hm (by simp[Ob.kind]);show v=.map (some (E.blk (rn ρ a)));rw[←this];exact h k0 v0 (bP hinj' hm)
     | _=>simp[Ob.kh] at hl
   | fn f caps =>
     obtain⟨vs,h1,h2,h3⟩:=h;refine⟨vs,h1,by simpa using h2,fun j c hc=>?_⟩;rw[aaI,aaH] at hc;obtain⟨c0,hc0,rfl⟩:=hc;have h4:=h3 j c0 hc0;have h5:=aa5.1 hp c0 (abm hc0);cases c0 with
     | pl d =>
       refine bL.cm h4 fun b hb=>?_
       rcases hb with hb|hb
       · exact .inl (.inl hb)
       · exact(own9 hb).elim .inr fun h1=>.inl (.inr h1)
     | bx a =>
       obtain⟨ob,hm⟩:=key h5;intro e cs hl;rw[look1 hm] at hl;cases ob with
       | box e0 cs0 =>
         have:=blk hm (by simp[Ob.kind]);show vs.getD j undef=.pointer (some ⟨E.blk (rn ρ a),0,none⟩);rw[←this];exact h4 e0 cs0 (bP hinj' hm)
       | _=>simp[Ob.kh] at hl
     | om a =>
       obtain⟨ob,hm⟩:=key h5;intro ks vs0 hl;rw[look1 hm] at hl;cases ob with
       | mp k0 v0 =>
         have:=blk hm (by simp[Ob.kind]);show _=Value.map (some (E.blk (rn ρ a)));rw[←this];exact h4 k0 v0 (bP hinj' hm)
       | _=>simp[Ob.kh] at hl
     | ow a =>
       obtain⟨ob,hm⟩:=key h5;intro e xs hl;rw[look1 hm] at hl;cases ob<;>simp only[Ob.kh,aaB,reduceCtorEq] at hl;cases hl;show vs.getD j undef=E''.cur (rn ρ a);rw[cur1 hm];exact h4 e xs (bP hinj' hm)
   | hid f caps =>
     obtain⟨vs,h1,h2,h3⟩:=h;refine⟨vs,h1,by simpa using h2,fun j c hc=>?_⟩;rw[aaI,aaH] at hc;obtain⟨c0,hc0,rfl⟩:=hc;have h4:=h3 j c0 hc0;have h5:=aa5.1 hp c0 (abm hc0);cases c0 with
     | pl d =>
       refine bL.cm h4 fun b hb=>?_
       rcases hb with hb|hb
       · exact .inl (.inl hb)
       · exact(own9 hb).elim .inr fun h1=>.inl (.inr h1)
     | bx a =>
       obtain⟨ob,hm⟩:=key h5;intro e cs hl;rw[look1 hm] at hl;cases ob with
       | box e0 cs0 =>
         have:=blk hm (by simp[Ob.kind]);show vs.getD j undef=.pointer (some ⟨E.blk (rn ρ a),0,none⟩);rw[←this];exact h4 e0 cs0 (bP hinj' hm)
       | _=>simp[Ob.kh] at hl
     | om a =>
       obtain⟨ob,hm⟩:=key h5;intro ks vs0 hl;rw[look1 hm] at hl;cases ob with
       | mp k0 v0 =>
         have:=blk hm (by simp[Ob.kind]);show _=Value.map (some (E.blk (rn ρ a)));rw[←this];exact h4 k0 v0 (bP hinj' hm)
       | _=>simp[Ob.kh] at hl
     | ow a =>
       obtain⟨ob,hm⟩:=key h5;intro e xs hl;rw[look1 hm] at hl;cases ob<;>simp only[Ob.kh,aaB,reduceCtorEq] at hl;cases hl;show vs.getD j undef=E''.cur (rn ρ a);rw[cur1 hm];exact h4 e xs (bP hinj' hm)
   | nst a =>
     obtain⟨ob,hm⟩:=key hp;refine⟨fun e cs ln hl=>?_,fun ks cs ln hl=>?_⟩
     · rw [look1 hm] at hl
       cases ob<;>simp only[Ob.kh,aaB,reduceCtorEq] at hl;rw[cur1 hm];exact h.1 _ _ _ (bP hinj' hm)
     · rw [look1 hm] at hl
       cases ob with
       | nmp k0 c0 l0 =>
         have:=blk hm (by simp[Ob.kind]);show v=.map (some (E.blk (rn ρ a)));rw[←this];exact h.2 k0 c0 l0 (bP hinj' hm)
       | _=>simp[Ob.kh] at hl
   | nel a j =>
     obtain⟨ob,hm⟩:=key hp;intro e cs ln hl;rw[look1 hm] at hl;cases ob with
     | nar e0 c0 l0 =>
       simp only[Ob.kh,aaB,Ob.nar.injEq] at hl;obtain⟨_,rfl,_⟩:=hl;rw[cur1 hm];exact h _ _ _ (bP hinj' hm)
     | _=>simp[Ob.kh] at hl
   | dead=>trivial
 have lent1:∀{ln:Option (Nat×eh)},BZ (oc'.map (·.1)) ln=true→nq E' E'' ln (vt ρ ln):=fun{ln} hp=>by
   refine⟨um ln,fun j u' hu=>?_,fun j u' hu=>?_⟩
   · cases ln with
     | none=>cases hu
     | some p =>
       obtain⟨j0,l⟩:=p;cases l with
       | no=>cases hu
       | map u=>cases hu
       | arr u =>
         cases hu;have hp:(oc'.map (·.1)).contains u=true:=hp;rw[acd,decide_eq_true_eq] at hp;obtain⟨p,hm,rfl⟩:=aa7.1 hp;exact⟨_,rfl,cur1 (a:=p.1) (ob:=p.2) hm⟩
   · cases ln with
     | none=>cases hu
     | some p =>
       obtain⟨j0,l⟩:=p;cases l with
       | no=>cases hu
       | arr u=>cases hu
       | map u=>cases hp
 have lent2:∀ln,nq E E'' ln (s4 (cY ρ oc') ln):=fun ln=>by
   refine⟨vu _ ln,fun j u' hu=>?_,fun j u' hu=>?_⟩
   · match ln, hu with
     | some (j0, .arr u), hu =>
       have hu:some (j0,if(cY ρ oc').contains u=true then eh.no else .arr u)=some (j,.arr u'):=hu;cases q:(cY ρ oc').contains u with
       | true=>rw[if_pos q] at hu;cases hu
       | false=>rw[if_neg (by rw[q];decide)] at hu;cases hu;exact⟨u',rfl,cur2 q⟩
   · match ln, hu with
     | some (j0, .arr u), hu =>
       have hu:some (j0,if(cY ρ oc').contains u=true then eh.no else .arr u)=some (j,.map u'):=hu;cases q:(cY ρ oc').contains u with
       | true=>rw[if_pos q] at hu;cases hu
       | false=>rw[if_neg (by rw[q];decide)] at hu;cases hu
     | some (j0,.map u),hu=>cases hu;exact⟨u',rfl,rfl⟩
 have PW:∀v d,bm P M0 w E s.o v d→d.safe (cY ρ oc')=true→bm P M0 w' E'' (s.after ρ oc').o v d:=by
   intro v d h hsf;cases d with
   | v c d=>exact rep c v d (by rintro rfl;cases hsf) h
   | own i =>
     have hi:(cY ρ oc').contains i=false:=by simpa[SV.safe] using hsf
     intro e xs hl;rw[look2 hi,aaH] at hl;obtain⟨ob0,h1,h2⟩:=hl;cases ob0<;>simp only[Ob.after,reduceCtorEq] at h2;cases h2;rw[cur2 hi];exact h e xs h1
   | pel i j k =>
     have hi:(cY ρ oc').contains i=false:=by simpa[SV.safe] using hsf
     intro e xs hl;rw[look2 hi,aaH] at hl;obtain⟨ob0,h1,h2⟩:=hl;cases ob0<;>simp only[Ob.after,reduceCtorEq] at h2;cases h2;rw[cur2 hi];exact h e xs h1
   | vsl i j k =>
     have hi:(cY ρ oc').contains i=false:=by simpa[SV.safe] using hsf
     intro e xs hl;rw[look2 hi,aaH] at hl;obtain⟨ob0,h1,h2⟩:=hl;cases ob0<;>simp only[Ob.after,reduceCtorEq] at h2;cases h2;rw[cur2 hi];exact h e xs h1
   | pbox i k =>
     intro e cs hl;cases hi:(cY ρ oc').contains i with
     | true =>
       obtain⟨a,ob,hm,rfl⟩:=mR hi;rw[look1 hm] at hl;obtain⟨ob0,h1,h2⟩:=old hm;cases ob0 with
       | box e0 cs0=>exact h _ _ (hob a _ h1)
       | _=>cases ob<;>simp[Ob.kh,Ob.kind] at hl h2
     | false =>
       rw[look2 hi,aaH] at hl;obtain⟨ob0,h1,h2⟩:=hl;cases ob0<;>simp only[Ob.after,reduceCtorEq] at h2;exact h _ _ h1
   | omap i =>
     intro ks vs hl;cases hi:(cY ρ oc').contains i with
     | true =>
       obtain⟨a,ob,hm,rfl⟩:=mR hi;rw[look1 hm] at hl;obtain⟨ob0,h1,h2⟩:=old hm;cases ob0 with
       | mp k0 v0=>exact h _ _ (hob a _ h1)
       | _=>cases ob<;>simp[Ob.kh,Ob.kind] at hl h2
     | false =>
       rw[look2 hi,aaH] at hl;obtain⟨ob0,h1,h2⟩:=hl;cases ob0<;>simp only[Ob.after,reduceCtorEq] at h2;exact h _ _ h1
   | fn f caps =>
     obtain⟨vs,h1,h2,h3⟩:=h;refine⟨vs,h1,h2,fun j c hc=>?_⟩;have h4:=h3 j c hc;cases c with
     | pl d=>exact rep .pl _ _ (by simp) h4
     | bx i =>
       intro e cs hl;cases hi:(cY ρ oc').contains i with
       | true =>
         obtain⟨a,ob,hm,rfl⟩:=mR hi;rw[look1 hm] at hl;obtain⟨ob0,h1,h2⟩:=old hm;cases ob0 with
         | box e0 cs0=>exact h4 _ _ (hob a _ h1)
         | _=>cases ob<;>simp[Ob.kh,Ob.kind] at hl h2
       | false =>
         rw[look2 hi,aaH] at hl;obtain⟨ob0,h1,h2⟩:=hl;cases ob0<;>simp only[Ob.after,reduceCtorEq] at h2;exact h4 _ _ h1
     | om i =>
       intro ks vs hl;cases hi:(cY ρ oc').contains i with
       | true =>
         obtain⟨a,ob,hm,rfl⟩:=mR hi;rw[look1 hm] at hl;obtain⟨ob0,h1,h2⟩:=old hm;cases ob0 with
         | mp k0 v0=>exact h4 _ _ (hob a _ h1)
         | _=>cases ob<;>simp[Ob.kh,Ob.kind] at hl h2
       | false =>
         rw[look2 hi,aaH] at hl;obtain⟨ob0,h1,h2⟩:=hl;cases ob0<;>simp only[Ob.after,reduceCtorEq] at h2;exact h4 _ _ h1
     | ow i =>
       have hi:(cY ρ oc').contains i=false:=by simpa using aa5.1 hsf _ (abm hc)
       intro e xs hl;rw[look2 hi,aaH] at hl;obtain⟨ob0,h1,h2⟩:=hl;cases ob0<;>simp only[Ob.after,reduceCtorEq] at h2;rw[cur2 hi];cases h2;exact h4 _ _ h1
   | hid f caps =>
     obtain⟨vs,h1,h2,h3⟩:=h;refine⟨vs,h1,h2,fun j c hc=>?_⟩;have h4:=h3 j c hc;cases c with
     | pl d=>exact rep .pl _ _ (by simp) h4
     | bx i =>
       intro e cs hl;cases hi:(cY ρ oc').contains i with
       | true =>
         obtain⟨a,ob,hm,rfl⟩:=mR hi;rw[look1 hm] at hl;obtain⟨ob0,h1,h2⟩:=old hm;cases ob0 with
         | box e0 cs0=>exact h4 _ _ (hob a _ h1)
         | _=>cases ob<;>simp[Ob.kh,Ob.kind] at hl h2
       | false =>
         rw[look2 hi,aaH] at hl;obtain⟨ob0,h1,h2⟩:=hl;cases ob0<;>simp only[Ob.after,reduceCtorEq] at h2;exact h4 _ _ h1
     | om i =>
       intro ks vs hl;cases hi:(cY ρ oc').contains i with
       | true =>
         obtain⟨a,ob,hm,rfl⟩:=mR hi;rw[look1 hm] at hl;obtain⟨ob0,h1,h2⟩:=old hm;cases ob0 with
         | mp k0 v0=>exact h4 _ _ (hob a _ h1)
         | _=>cases ob<;>simp[Ob.kh,Ob.kind] at hl h2
       | false =>
         rw[look2 hi,aaH] at hl;obtain⟨ob0,h1,h2⟩:=hl;cases ob0<;>simp only[Ob.after,reduceCtorEq] at h2;exact h4 _ _ h1
     | ow i =>
       have hi:(cY ρ oc').contains i=false:=by simpa using aa5.1 hsf _ (abm hc)
       intro e xs hl;rw[look2 hi,aaH] at hl;obtain⟨ob0,h1,h2⟩:=hl;cases ob0<;>simp only[Ob.after,reduceCtorEq] at h2;rw[cur2 hi];cases h2;exact h4 _ _ h1
   | nst i =>
     have hi:(cY ρ oc').contains i=false:=by simpa[SV.safe] using hsf
     refine⟨fun e cs ln hl=>?_,fun ks cs ln hl=>?_⟩
     · rw [look2 hi, aaH] at hl
       obtain⟨ob0,h1,h2⟩:=hl;cases ob0<;>simp only[Ob.after,reduceCtorEq] at h2;rw[cur2 hi];exact h.1 _ _ _ h1
     · rw [look2 hi, aaH] at hl
       obtain⟨ob0,h1,h2⟩:=hl;cases ob0<;>simp only[Ob.after,reduceCtorEq] at h2;exact h.2 _ _ _ h1
   | nel i j =>
     have hi:(cY ρ oc').contains i=false:=by simpa[SV.safe] using hsf
     intro e xs ln hl;rw[look2 hi,aaH] at hl;obtain⟨ob0,h1,h2⟩:=hl;cases ob0 with
     | nar e0 c0 l0 =>
       simp only[Ob.after,Ob.nar.injEq] at h2;obtain⟨_,rfl,_⟩:=h2;rw[cur2 hi];exact h _ _ _ h1
     | _=>simp[Ob.after] at h2
   | dead=>trivial
 refine⟨E'',⟨hs.size,hs.defers.same J (fun D hD=>(kept (gx hD) fun ho=>by
   obtain⟨i,ob,h1,h2⟩:=eZ hob ho;exact((hs.wok.objs i ob h1).kT h2) hD).trans hD),fun t d ht=>?_,fun i ob hi=>?_,fun i ob i' ob' b h1 h2 h3 h4=>?_,?_,hs.wok.pins⟩,back⟩
 · have hm := kG _ ht
   obtain⟨h1,h2⟩:=abA.1 hm;have:=hs.slots t d (lq s.s t d hnd h1);exact⟨this.1,PW _ _ this.2 h2⟩
 · cases hii : (cY ρ oc').contains i with
   | true =>
     obtain⟨a,obc,hm,rfl⟩:=mR hii;rw[look1 hm] at hi;simp only[aaB] at hi;subst hi;have h0:=hw'.objs a obc (bP hinj' hm);cases obc with
     | arr e xs =>
       obtain⟨vals,h1,h2,h3⟩:=h0;refine⟨vals,?_,h2,fun j d hd=>⟨(h3 j d hd).1,back _ (.v .pl d) J (h3 j d hd).2⟩⟩;rw[cur1 hm];exact⟨h1.1,fun b hb=>free (h1.2 b hb)⟩
     | box e cs =>
       have hb:=blk hm (by simp[Ob.kind]);obtain⟨vals,h1,h2,h3,h4⟩:=h0;rw[hb] at h1 h2;refine⟨vals,h1,free h2,by simpa using h3,fun j d hd=>?_⟩;rw[aaI,aaH] at hd;obtain⟨d0,hd0,rfl⟩:=hd;have h5:=h4 j d0 hd0;have hpp:=aa5.1 hpl _ hm;simp only[Ob.plain] at hpp;refine⟨?_,h5.2.1,back _ d0 (aa5.1 hpp d0 (abm hd0)) h5.2.2⟩;have h6:=h5.1;cases d0<;>simp_all [SV.kh,SV.leaf]
     | mp ks vs =>
       have hb:=blk hm (by simp[Ob.kind]);obtain⟨es,clock,h1,h2,h3,h4,h5⟩:=h0;rw[hb] at h1 h2;exact⟨es,clock,h1,free h2,h3,h4,fun j d hd=>back _ (.v .pl d) J (h5 j d hd)⟩
     | nar e cs ln =>
       have hln:nq E' E'' ln (vt ρ ln):=lent1 (aa5.1 hpl _ hm);obtain⟨n,vals,h1,h2,h3,h4,h5⟩:=h0;show ∃n vals,_∧_∧_∧_∧_;rw[cur1 hm,sub1 hm];exact⟨n,vals,⟨h1.1,fun b hb=>free (h1.2 b hb)⟩,h2,h3,h4.go hln (fun _ _=>rfl) (fun b hb hf=>free hf) (fun v d hr=>back v (.v .pl d) J hr),fun b hb=>h5 b (iX.1 hb)⟩
     | nmp ks cs ln =>
       have hln:nq E' E'' ln (vt ρ ln):=lent1 (aa5.1 hpl _ hm);have hb:=blk hm (by simp[Ob.kind]);obtain⟨es,clock,h1,h2,h3,h4,h5,h6,h7⟩:=h0;rw[hb] at h1 h2 h7;show ∃es clock,_∧_∧_∧_∧_∧_∧_;rw[sub1 hm];exact⟨es,clock,h1,free h2,h3,h4,h5,h6.go hln (fun _ _=>rfl) (fun b hb hf=>free hf) (fun v d hr=>back v (.v .pl d) J hr),fun b hb=>h7 b (iX.1 hb)⟩
   | false =>
     rw[look2 hii,aaH] at hi;obtain⟨ob0,hl0,rfl⟩:=hi;have h0:=hs.wok.objs i ob0 hl0;have hrange:=fun{b}(hb:bG E i b ob0)=>(h0.dG hb).2
     cases ob0 with
     | arr e xs =>
       obtain⟨vals,h1,h2,h3⟩:=h0;refine⟨vals,?_,h2,fun j d hd=>⟨(h3 j d hd).1,rep .pl _ _ (by simp) (h3 j d hd).2⟩⟩;rw[cur2 hii];exact⟨km h1.1 fun g hg=>kept (hrange hg) (notc hii hl0 hg),h1.2⟩
     | box e cs =>
       have hk:=kept (hrange rfl) (notc hii hl0 rfl);obtain⟨vals,h1,h2,h3,h4⟩:=h0;refine⟨vals,by show w'.heap[E.blk i]?=_;rw[hk];exact h1,h2,by simpa using h3,fun j d hd=>?_⟩;rw[aaI,aaH] at hd;obtain⟨d0,hd0,rfl⟩:=hd;have h5:=h4 j d0 hd0;split
       · exact⟨h5.1,h5.2.1,PW _ _ h5.2.2 ‹_›⟩
       · exact⟨rfl,h5.2.1,trivial⟩
     | mp ks vs =>
       have hk:=kept (hrange rfl) (notc hii hl0 rfl);obtain⟨es,clock,h1,h2,h3,h4,h5⟩:=h0;exact⟨es,clock,by show w'.heap[E.blk i]?=_;rw[hk];exact h1,h2,h3,h4,fun j d hd=>rep .pl _ _ (by simp) (h5 j d hd)⟩
     | nar e cs ln =>
       obtain⟨n,vals,h1,h2,h3,h4,h5⟩:=h0;show ∃n vals,_∧_∧_∧_∧_;rw[cur2 hii,sub2 hii];exact⟨n,vals,⟨km h1.1 fun g hg=>kept (hrange (.inl hg)) (notc hii hl0 (.inl hg)),h1.2⟩,h2,h3,h4.go (lent2 ln) (fun b hb=>kept (hrange (.inr hb)) (notc hii hl0 (.inr hb))) (fun b hb hf=>hf) (fun v d hr=>rep .pl v d (by simp) hr),fun b hb=>h5 b (oy.1 hb)⟩
     | nmp ks cs ln =>
       have hk:=kept (hrange (.inl rfl)) (notc hii hl0 (.inl rfl));obtain⟨es,clock,h1,h2,h3,h4,h5,h6,h7⟩:=h0;show ∃es clock,_∧_∧_∧_∧_∧_∧_;rw[sub2 hii];exact⟨es,clock,by show w'.heap[E.blk i]?=_;rw[hk];exact h1,h2,h3,h4,h5,h6.go (lent2 ln) (fun b hb=>kept (hrange (.inr hb)) (notc hii hl0 (.inr hb))) (fun b hb hf=>hf) (fun v d hr=>rep .pl v d (by simp) hr),fun b hb=>h7 b (oy.1 hb)⟩
 · rcases split h1 h3 with ⟨a, obc, hm, rfl, _, g1⟩ | ⟨hi, ob0, g0, _, g1⟩
   · rcases split h2 h4 with ⟨a', obc', hm', rfl, _, g2⟩ | ⟨hi', ob0', g0', _, g2⟩
     · rw[hw'.disj a obc a' obc' b (bP hinj' hm) (bP hinj' hm') g1 g2]
     · exfalso
       rcases own10 ⟨a,obc,bP hinj' hm,g1⟩ with q|q
       · exact notc hi' g0' g2 q
       · have:=((hs.wok.objs i' ob0' g0').dG g2).2;omega
   · rcases split h2 h4 with ⟨a', obc', hm', rfl, _, g2⟩ | ⟨hi', ob0', g0', _, g2⟩
     · exfalso
       rcases own10 ⟨a',obc',bP hinj' hm',g2⟩ with q|q
       · exact notc hi g0 g1 q
       · have:=((hs.wok.objs i ob0 g0).dG g1).2;omega
     · exact hs.wok.disj i ob0 i' ob0' b g0 g0' g1 g2
 · exact hs.wok.below.trans ⟨hw'.below.os,hw'.below.tape,hw'.below.output,hw'.below.size,fun k hk=>kept (by have:=w0.hK k hk;have:=hs.wok.below.size;omega) (fun ho=>(hs.wok.bH (eZ hob ho)).1.1 hk),hw'.below.drawn⟩
end
variable{f:Nat}{args caps svs:List SV}{o1:List (Nat×Ob)}{ats:Array TypeId}{dc:SV}
section
variable {P:Program} {w0:Fr}{M0:Nat→Prop}
theorem gu.mN {E:Env}{o o':List (Nat×Ob)}{w:World}(hw:gu P w0 M0 E o w)(ho':∀id ob,o'.lookup id=some ob→o.lookup id=some ob):gu P w0 M0 E o' w:=by
 have hown:∀b,owned E o' b→owned E o b:=fun b ⟨id,ob,h1,h2⟩=>⟨id,ob,ho' id ob h1,h2⟩
 refine⟨fun id ob hid=>?_,fun id ob id' ob' b h1 h2=>hw.disj id ob id' ob' b (ho' _ _ h1) (ho' _ _ h2),hw.below,hw.pins⟩;have:=hw.objs id ob (ho' id ob hid);cases ob with
 | arr e xs =>
   obtain⟨vals,h1,h2,h3⟩:=this;exact⟨vals,h1,h2,fun j d hd=>⟨(h3 j d hd).1,(h3 j d hd).2.cm (dW hown .pl)⟩⟩
 | box e cs =>
   obtain⟨vals,h1,h2,h3,h4⟩:=this;exact⟨vals,h1,h2,h3,fun j sv hj=>⟨(h4 j sv hj).1,(h4 j sv hj).2.1,(h4 j sv hj).2.2.mN ho'⟩⟩
 | mp ks vs =>
   obtain⟨es,clock,h1,h2,h3,h4,h5⟩:=this;exact⟨es,clock,h1,h2,h3,h4,fun j d hd=>(h5 j d hd).cm (dW hown .pl)⟩
 | nar e cs ln =>
   obtain⟨n,vals,h1,h2,h3,h4,h5⟩:=this;exact⟨n,vals,h1,h2,h3,h4.cm hown,h5⟩
 | nmp ks cs ln =>
   obtain⟨es,clock,h1,h2,h3,h4,h5,h6,h7⟩:=this;exact⟨es,clock,h1,h2,h3,h4,h5,h6.cm hown,h7⟩
theorem dz {n:Nat}{fn:Func}{c:Code}(hf:P.funcs[f]?=some fn)(hb:fn.body=some c)(hnt:fn.ntmps=n){o:List (Nat×Ob)}{Q:Exit→St→Prop}{R:Value→Env→St→World→Prop}{E:Env}{w:World}(hn:args.length≤n)(vs:List Value)(hv:vs.length=args.length)
  (hw:gu P w0 M0 E o w)(hr:∀(j:Nat) d,args[j]?=some d→bm P M0 w E o (vs.getD j undef) d)
  (h:aw P w0.plain M0 c (St.fH n args o) Q)(hQ:∀e s' a' w' E',Q e s'→ba P w0 M0 E' s' a' w'→(e=.normal∨e=.ret)∧∃v,(results fn a'.tmps).run P w'=.ok v w'∧R v E' s' w') :
  Calls P f vs.toArray w fun e w'=>∃v E' s',e=.returned v∧R v E' s' w':=by
 have hE:ba P w0.plain M0 E (St.fH n args o) { tmps:=vs.toArray++Array.replicate (fn.ntmps-vs.toArray.size) undef,defers:=[] } w:=by
  refine⟨by simp[St.fH,hnt];omega,rfl,fun t d ht=>?_,hw.plain⟩;obtain⟨_,he⟩:=kF args 0 t d ht;rw[acE] at he;have hlt:t<args.length:=(aa0.1 he).1;refine⟨by simp[St.fH];omega,?_⟩;have:=hr t d he;have hget:(vs.toArray++Array.replicate (fn.ntmps-vs.toArray.size) undef).getD t undef=vs.getD t undef:=by
   rw[abc,ack (by simp;omega),aax];simp
  rw[hget];exact this
 refine calls_of_wp hf hb (wp_mono (show Code.wp P c _ _ _ from h _ _ ⟨_,hE⟩) fun e a' w' ⟨s',hq,E',hs⟩=>?_);have hdf:a'.defers=[]:=hs.defers;have hs:=hs.wz;obtain⟨he,v,hv1,hv2⟩:=hQ e s' a' w' E' hq hs;have fin:a'.defers=[]∧∃v,(results fn a'.tmps).run P w'=.ok v w'∧∃v_1 E'_1 s'_1,Ending.returned v=Ending.returned v_1∧R v_1 E'_1 s'_1 w':=⟨hdf,v,hv1,_,E',s',rfl,hv2⟩;rcases he with rfl|rfl
 ·exact fin
 ·exact fin
def Vp (t:Nat)(r:SV)(o':List (Nat×Ob)):Exit→St→Prop
 | .normal,s|.ret,s=>s.s.lookup t=some r∧∀id ob,o'.lookup id=some ob→s.o.lookup id=some ob
 | _,_=>False
def Me (o':List (Nat×Ob)):Exit→St→Prop
 | .normal,s|.ret,s=>∀id ob,o'.lookup id=some ob→s.o.lookup id=some ob
 | _,_=>False
def R1 (P : Program) (f : FuncId) (n : Nat) (c : Code) : Prop := ∃ fn, P.funcs[f]? = some fn ∧ fn.body = some c ∧ fn.ntmps = n ∧ fn.results = #[] ∧ (fn.name == "runtime.NumGoroutine") = false
theorem R1.bu {n:Nat}{c:Code}(h:R1 P f n c):cq P f:=by obtain⟨fn,h1,h2,_,_,h5⟩:=h;exact⟨fn,h1,h5,by rw[h2];rfl⟩
theorem gL {n t:Nat}{c:Code}(hf:H5 P f n t c){o o':List (Nat×Ob)}{r:SV}(hn:args.length≤n)
  (h:∀(w0:Fr)(M0:Nat→Prop),(∀b,M0 b→b<w0.w.heap.size)→aw P w0 M0 c (St.fH n args o) (Vp t r o')):lB P f args o r o':=by
 refine⟨hf.bu,fun w0 M0 E w vs ae hw hv hr=>?_⟩;obtain⟨fn,h1,h2,h3,h4,h5⟩:=hf;refine(dz h1 h2 h3 (R:=fun v E' s' w'=>gu P w0 M0 E' o' w'∧bm P M0 w' E' o' v r) hn vs hv hw hr (h w0.plain M0 ae) (fun e s' a' w' E' hq hs=>?_)).mono fun e w' ⟨v,E',s',he,hR⟩=>⟨v,E',he,hR⟩
 have fin:s'.s.lookup t=some r∧(∀id ob,o'.lookup id=some ob→s'.o.lookup id=some ob)→∃v,(results fn a'.tmps).run P w'=.ok v w'∧gu P w0 M0 E' o' w'∧bm P M0 w' E' o' v r:=fun⟨q1,q2⟩ =>
  ⟨a'.tmps.getD t undef,by simp[results,h4],hs.wok.mN q2,(hs.slots t r q1).2.mN q2⟩
 cases e with
 | normal=>exact⟨.inl rfl,fin hq⟩
 | ret=>exact⟨.inr rfl,fin hq⟩
 | exit _=>exact hq.elim
 | goto _=>exact hq.elim
 | panic _=>exact hq.elim
 | outgrown=>exact hq.elim
theorem pH {n:Nat}{c:Code}(hf:R1 P f n c){o o':List (Nat×Ob)}(hn:args.length≤n)
  (h:∀(w0:Fr)(M0:Nat→Prop),(∀b,M0 b→b<w0.w.heap.size)→aw P w0 M0 c (St.fH n args o) (Me o')):lB P f args o (.v .pl (.tup [])) o':=by
 refine⟨hf.bu,fun w0 M0 E w vs ae hw hv hr=>?_⟩;obtain⟨fn,h1,h2,h3,h4,h5⟩:=hf;refine(dz h1 h2 h3 (R:=fun v E' s' w'=>gu P w0 M0 E' o' w'∧bm P M0 w' E' o' v (.v .pl (.tup []))) hn vs hv hw hr (h w0.plain M0 ae) (fun e s' a' w' E' hq hs=>?_)).mono fun e w' ⟨v,E',s',he,hR⟩=>⟨v,E',he,hR⟩
 have fin:(∀id ob,o'.lookup id=some ob→s'.o.lookup id=some ob)→∃v,(results fn a'.tmps).run P w'=.ok v w'∧gu P w0 M0 E' o' w'∧bm P M0 w' E' o' v (.v .pl (.tup [])):=fun q2 =>
  ⟨.tuple #[],by simp[results,h4],hs.wok.mN q2,.tup [] [] rfl (fun j d hd=>by simp at hd)⟩
 cases e with
 | normal=>exact⟨.inl rfl,fin hq⟩
 | ret=>exact⟨.inr rfl,fin hq⟩
 | exit _=>exact hq.elim
 | goto _=>exact hq.elim
 | panic _=>exact hq.elim
 | outgrown=>exact hq.elim
theorem eG {t:Nat}{r r1:SV}{o':List (Nat×Ob)}{s:St}(h:s.s.lookup t=some r1)(ho:wc s o1)(e:r1=r∧o1=o'):Vp t r o' .ret s:=by obtain⟨rfl,rfl⟩:=e;exact⟨h,ho.out⟩
theorem en {o':List (Nat×Ob)}{s:St}(ho:wc s o1)(e:o1=o'):Me o' .normal s:=by subst e;exact ho.out
def qw.sv:qw→SV
 | .bx id=>.pbox id 0
 | .pl d=>.v .pl d
 | .ow id=>.own id
 | .om id=>.omap id
def nF:SV→Option (FuncId×List SV)
 | .v c (.clo f caps)=>some (f,caps.map (.v c))
 | .fn f caps=>some (f,caps.map qw.sv)
 | _=>none
theorem vx {E:Env}{o:List (Nat×Ob)}{w:World}{d:SV}{f:FuncId}{cs:List SV}(h:bm P M0 w E o v d)(hc:nF d=some (f,cs)) :
   ∃vs:List Value,v=.func (.func f) #[] vs.toArray∧vs.length=cs.length∧∀(j:Nat) e,cs[j]?=some e→bm P M0 w E o (vs.getD j undef) e:=by
 unfold nF at hc;split at hc
 · simp only [aaB, abP] at hc
   obtain⟨rfl,rfl⟩:=hc;cases h with
   | clo _ vs _ hn hr =>
     refine⟨vs,rfl,by simpa using hn,fun j e he=>?_⟩;rw[aaI,aaH] at he;obtain⟨a,ha,rfl⟩:=he;exact hr j a ha
 · simp only [aaB, abP] at hc
   obtain⟨rfl,rfl⟩:=hc;obtain⟨vs,h1,h2,h3⟩:=h;refine⟨vs,h1,by simpa using h2,fun j e he=>?_⟩;rw[aaI,aaH] at he;obtain⟨c,hc,rfl⟩:=he;have:=h3 j c hc;cases c with
   | bx id=>exact this
   | pl d=>exact this
   | ow id=>exact this
   | om id=>exact this
 · cases hc
def PL (s:St):List Operand→Option (List SV)
 | []=>some []
 | x :: r => match s.ev x, PL s r with
   | some d,some ds=>some (d :: ds)
   | _,_=>none
theorem Gv {E:Env}{s:St}{a:Act}{w:World}(hs:ba P w0 M0 E s a w):∀{xs:List Operand}{ds:List SV},PL s xs=some ds→xs.length=ds.length∧∀(j:Nat) d,ds[j]?=some d→bm P M0 w E s.o ((xs.map a.eval).getD j undef) d
 | [],ds,h=>by simp only[PL,aaB] at h;subst h;exact⟨rfl,fun j d hd=>by simp at hd⟩
 | x :: r, ds, h => by
   unfold PL at h;split at h
   · rename_i d0 ds0 h1 h2
     simp only[aaB] at h;subst h;obtain⟨g1,g2⟩:=Gv hs h2;refine⟨by simp[g1],fun j d hd=>?_⟩;cases j with
     | zero=>simp only[abf,aaB] at hd;subst hd;exact hs.ev h1
     | succ j=>exact g2 j d (by simpa using hd)
   · cases h
def Mf (s:St)(ρ:List (Nat×Nat))(ids:List Nat)(sv d:SV):Prop :=
 sv=d.kh ρ∨(∃a,sv=.v .pl a∧d=.v .mx a)∨(∃i e xs,sv=.own i∧s.o.lookup i=some (.arr e xs)∧ids.contains i=false∧d=.v .mx (.sl xs))
def lu (s:St)(ρ:List (Nat×Nat))(ids:List Nat):List SV→List SV→Prop
 | [],[]=>True
 | sv :: r,d :: ds=>Mf s ρ ids sv d∧lu s ρ ids r ds
 | _,_=>False
theorem lu.get {s:St}{ρ:List (Nat×Nat)}{ids:List Nat}:∀{l m:List SV},lu s ρ ids l m→l.length=m.length∧∀(j:Nat) d,m[j]?=some d→∃sv,l[j]?=some sv∧Mf s ρ ids sv d
 | [],[],_=>⟨rfl,fun j d hd=>by simp at hd⟩
 | sv :: r, d :: ds, h => by
   obtain⟨g1,g2⟩:=lu.get h.2;refine⟨by simp[g1],fun j e he=>?_⟩;cases j with
   | zero=>simp only[abf,aaB] at he;subst he;exact⟨sv,rfl,h.1⟩
   | succ j=>exact g2 j e (by simpa using he)
theorem xt {E:Env}{s:St}{w:World}{ρ:List (Nat×Nat)}{oc:List (Nat×Ob)}(hw:gu P w0 M0 E s.o w)(hob:∀a ob,oc.lookup a=some ob→s.o.lookup (rn ρ a)=some (ob.kh ρ)){sv d:SV}(h:bm P M0 w E s.o v sv)(ha:Mf s ρ (cY ρ oc) sv d) :
  bm P (Lx M0 (owned E s.o) (owned (fJ E ρ) oc)) w (fJ E ρ) oc v d:=by
 rcases ha with rfl|⟨a,rfl,rfl⟩|⟨i,e,xs,rfl,hl,hi,rfl⟩
 ·exact Mb hob h
 ·exact bL.cm h fun b hb=>.inr (eZ hob hb)
 ·rw[h e xs hl];refine(hw.objs i _ hl).rep (fun b hb=>.inr (eZ hob hb)) (fun g hg=>?_);rintro⟨a,ob0,h1,h2⟩;have:=hw.disj i _ (rn ρ a) _ g hl (hob a ob0 h1) hg (pG.1 h2);rw[acd,decide_eq_false_iff_not] at hi;exact hi (aa7.2 ⟨_,dJ h1,this.symm⟩)
def oA (s:St)(ρ:List (Nat×Nat)):List (Nat×Ob)→Prop
 | []=>True
 | (a,ob) :: r=>s.o.lookup (rn ρ a)=some (ob.kh ρ)∧oA s ρ r
theorem oA.out {s:St}{ρ:List (Nat×Nat)}:∀{oc:List (Nat×Ob)},oA s ρ oc→∀a ob,oc.lookup a=some ob→s.o.lookup (rn ρ a)=some (ob.kh ρ)
 | [],_,a,ob,h=>by simp at h
 | (b, y) :: r, h, a, ob, hl => by
   rw[aq] at hl;split at hl
   · rename_i he
     subst he;simp only[aaB] at hl;subst hl;exact h.1
   · exact oA.out h.2 a ob hl
theorem aR {o:Oper}{s:St}{cx:Operand}{xs:Array Operand}{t:Nat}{f:FuncId}{r:SV}{oc oc':List (Nat×Ob)}(ρ:List (Nat×Nat))(ho:o.op=.call { callee:=.value cx,args:=xs,argTypes:=ats })(hd:o.dst=some t)(hn:Nat.blt t s.n=true)(hnd:Nodup s.s=true)
  (hc:s.ev cx=some dc)(hcc:nF dc=some (f,caps))(ha:PL s xs.toList=some svs)(h:lB P f args oc r oc')(hargs:lu s ρ (cY ρ oc) (svs++caps) args)(hob:oA s ρ oc)(hinj:ju (cY ρ oc)=true)(hsame:oc.map (fun p=>(p.1,p.2.kind))=oc'.map (fun p=>(p.1,p.2.kind)))
  (hbig:oc.all (fun p=>Nat.beq p.2.kind 0||Nat.ble 1000000 p.1)=true)(hpl:oc'.all (fun p=>p.2.plain (oc'.map (·.1)))=true)(hr:r.plain (oc'.map (·.1))=true)(ae:∀b,M0 b→b<w0.w.heap.size) :
  Step P w0 M0 o s ((s.after ρ oc').put t (r.kh ρ)):=by
 rintro a w Q ⟨E,hs⟩;obtain⟨vc,hvc,hcn,hcr⟩:=vx (hs.ev hc) hcc;obtain⟨hxn,hxr⟩:=Gv hs ha;have hob':=hob.out;obtain⟨han,har⟩:=hargs.get;unfold Oper.wp;rw[fG ho hvc h.1];simp only[Oper.upon];have hwc:=wC hs.wok hob' hinj;have hall:=h.2 (Tp w0.dr w (fJ E ρ) oc) (Lx M0 (owned E s.o) (owned (fJ E ρ) oc)) (fJ E ρ) w (xs.toList.map a.eval++vc) (fun b hb=>?_) hwc (by rw[←han];simp[hxn,hcn]) (fun j d hd=>?_)
 ·have e1:(xs.toList.map a.eval++vc).toArray=xs.map a.eval++vc.toArray:=by apply acw ;simp
  rw[e1] at hall;refine hall.mono fun e' w' ⟨v,E',he,hw',hv⟩=>?_
  subst he;simp only[hd];obtain⟨E'',h1,h2⟩:=hs.after hnd hob' hinj hsame hbig hpl hw';exact⟨E'',h1.put (by simpa[St.after] using hn) (h2 v r hr hv)⟩
 ·rcases hb with hb|hb
  ·have:=ae b hb;have:=hs.wok.below.size;show b<w.heap.size;omega
  ·exact(hs.wok.bH hb.1).2
 ·obtain⟨sv,hsv,hok⟩:=har j d hd;refine xt hs.wok hob' ?_ hok;rw[aax];rcases aa9 j svs.length with hlt|hge
  ·rw[aa8 hlt] at hsv;have:=hxr j sv hsv;rw[aa8 (by simp[hxn];omega)];rwa [aax] at this
  ·rw[aa6 hge] at hsv;have:=hcr _ sv hsv;rw[aa6 (by simp[hxn];omega)];simp only[aaA,hxn];rwa [aax] at this
def Ap (s:Operand→Option SV):List Operand→Option (List qw)
 | []=>some []
 | x :: r => match s x, Ap s r with
   | some (.pbox id 0),some cs=>some (.bx id :: cs)
   | some (.v .pl d),some cs=>some (.pl d :: cs)
   | _,_=>none
end
section
variable {P:Program} {w0:Fr}{M0:Nat→Prop}
def ug (P : Program) (f : FuncId) (n t : Nat) (T : TypeId) (k : Nat) (c : Code) : Prop := ∃ fn, P.funcs[f]? = some fn ∧ fn.body = some c ∧ fn.ntmps = n ∧ fn.results = #[.cell t T] ∧ (fn.name == "runtime.NumGoroutine") = false ∧ bo P T = some true ∧ bX P T = some k
theorem ug.bu {n t k:Nat}{T:TypeId}{c:Code}(h:ug P f n t T k c):cq P f:=by obtain⟨fn,h1,h2,_,_,h5,_⟩:=h;exact⟨fn,h1,h5,by rw[h2];rfl⟩
def r7 (ob:List (Nat×Ob))(k:Nat):SV→Option SV
 | .pbox id off => match ob.lookup id with
   | some (.box _ cs)=>if Nat.ble (off+k) cs.length then(jE ob ((cs.drop off).take k)).map fun p=>.v p.1 (.agg p.2) else none
   | _=>none
 | _=>none
def P6 (t k:Nat)(r:RV):Exit→St→Prop
 | .normal,s|.ret,s=>((s.s.lookup t).bind (r7 s.o k)).bind (bT s.o)=some r
 | _,_=>False
theorem iG {E:Env} {ob:List (Nat×Ob)} {w:World} {T:TypeId} {k:Nat}  {sv sv':SV} (hT:bo P T=some true) (hk:bX P T=some k) (hw:gu P w0 M0 E ob w)
   (h:bm P M0 w E ob v sv)(hb:r7 ob k sv=some sv'):∃v',((asAddr v).run P w).andThen (fun x w=>(loadVar T x).run P w)=.ok v' w∧bm P M0 w E ob v' sv':=by
 unfold r7 at hb;split at hb
 · rename_i id off
   split at hb
   · rename_i e cs hl
     split at hb
     · rename_i hle
       rw[aaH] at hb;obtain⟨⟨c,al⟩,hv,rfl⟩:=hb;have hr:=h e cs hl;have hle':=aaz hle;obtain⟨vals,h1,h2,h3,h4⟩:=hw.objs id _ hl;have hvl:((vals.drop off).take k).length=((cs.drop off).take k).length:=by simp;omega
       obtain⟨g1,g2⟩:=lF hw ((cs.drop off).take k) ((vals.drop off).take k) c al hvl (fun j d hd=>by
         rw[abo] at hd;split at hd
         · rename_i hj
           rw[ab3] at hd;have:=(h4 _ d hd).2.2;rw[aax] at this ⊢;rwa [abo,if_pos hj,ab3]
         · cases hd) hv
       have hcell:=run_loadCells (P:=P) w ⟨E.blk id,off,none⟩ k (fun j=>vals.getD (off+j) undef) (fun j hj=>by
         rw[Addr.add_lit,cell_of_row w _ (off+j) _ e (0,0) h1];have:off+j<vals.length:=adh;simp[aax,aaF this])
       have hkl:((vals.drop off).take k).length=k:=by simp;omega
       have e1:(List.range k).map (fun j=>vals.getD (off+j) undef)=(vals.drop off).take k:=by
         apply abJ;intro j;simp only[aaI,abo,ab3];rcases aa9 j k with hj|hj
         · rw [if_pos hj]
           have:off+j<vals.length:=adh;simp[hj,aax,aaF this]
         · rw[if_neg adh];simp;omega
       refine⟨.agg ((vals.drop off).take k).toArray,?_,.agg _ _ (by rw[hvl,g1]) (fun j d hd=>(g2 j d hd).1) (fun j d hd=>(g2 j d hd).2)⟩;subst hr;simp only[asAddr,loadVar,Sem.run_bind,dy hT,dE hk,Result.andThen_ok,Sem.run_pure,if_true,hcell,e1]
     · cases hb
   · cases hb
 · cases hb
theorem pI {n t k:Nat}{T:TypeId}{c:Code}(hf:ug P f n t T k c){r:RV}{cl:fX}{w:World}(hn:ds.length≤n)(vs:List Value)(hv:vs.length=ds.length)
  (hr:∀(j:Nat) d,ds[j]?=some d→bL w (cI M0 (fun _=>False) cl) (vs.getD j undef) d)
  (h:aw P (Fr.all w) M0 c (St.enter n cl ds) (P6 t k r)) :
  Calls P f vs.toArray w fun e w'=>∃v,e=.returned v∧Below w.heap.size w w'∧iN P w' M0 (fun b=>b<w.heap.size) v r:=by
 rw[e7] at h;obtain⟨fn,h1,h2,h3,h4,h5,h6,h7⟩:=hf;refine(dz h1 h2 h3 (R:=fun v E' s' w'=>Below w.heap.size w w'∧iN P w' M0 (fun b=>b<w.heap.size) v r) (by simpa using hn) vs (by simpa using hv) jO (fun j d hd=>?_) h (fun e s' a' w' E' hq hs=>?_)).mono fun e w' ⟨v,E',s',he,hR⟩=>⟨v,he,hR⟩
 ·rw[aaI,aaH] at hd;obtain⟨a,ha,rfl⟩:=hd;have:=hr j a ha;simp only[bm,ew];exact this
 ·have fin:((s'.s.lookup t).bind (r7 s'.o k)).bind (bT s'.o)=some r→∃v,(results fn a'.tmps).run P w'=.ok v w'∧Below w.heap.size w w'∧iN P w' M0 (fun b=>b<w.heap.size) v r:=fun hb=>by
   rw[abE] at hb;obtain⟨sv',hb,hret⟩:=hb;rw[abE] at hb;obtain⟨sv,hl,hb⟩:=hb;obtain⟨v,g1,g2⟩:=iG h6 h7 hs.wok (hs.slots t sv hl).2 hb;refine⟨v,?_,hs.wok.below.below,ei hs.wok g2 hret⟩;simp[results,h4,Sem.run_bind];simpa using g1
  cases e with
  | normal=>exact⟨.inl rfl,fin hq⟩
  | ret=>exact⟨.inr rfl,fin hq⟩
  | exit _=>exact hq.elim
  | goto _=>exact hq.elim
  | panic _=>exact hq.elim
  | outgrown=>exact hq.elim
theorem eH {n t k:Nat}{T:TypeId}{c:Code}(hf:ug P f n t T k c){r:RV}(hn:ds.length≤n)
  (h:∀(w0:Fr)(M0:Nat→Prop),(∀b,M0 b→b<w0.w.heap.size)→aw P w0 M0 c (St.enter n .mx ds) (P6 t k r)):au P f ds r :=
 ⟨hf.bu,fun w vs hv hr=>pI (cl:=.mx) hf hn vs hv (fun j d hd=>hr j d hd) (h (Fr.all w) (fun b=>b<w.heap.size) (fun b hb=>hb))⟩
theorem bh {n t k:Nat}{T:TypeId}{c:Code}(hf:ug P f n t T k c){r:RV}(hn:ds.length≤n)
  (h:∀(w0:Fr)(M0:Nat→Prop),(∀b,M0 b→b<w0.w.heap.size)→aw P w0 M0 c (St.enter n .pl ds) (P6 t k r)):aV P f ds r :=
 ⟨hf.bu,fun w M vs hM hv hr=>pI (cl:=.pl) hf hn vs hv (fun j d hd=>(hr j d hd).cm (fun b hb=>Or.elim hb id (fun h=>False.elim h))) (h (Fr.all w) M hM)⟩
theorem ao {t k:Nat}{s:St}{r r':RV}(h:((s.s.lookup t).bind (r7 s.o k)).bind (bT s.o)=some r')(hr:r'=r):P6 t k r .ret s:=by subst hr;exact h
end
variable{p:Nat}
section
variable {P:Program} {w0:Fr}{M0:Nat→Prop}{s:St}
variable {o:Oper} {ρ:Operand→Option SV}{ob:List (Nat×Ob)}{x y z:Operand}{T e:TypeId}{k:Nat}{xs:List AV}{id:Nat}{c:fX}
theorem s5 {w:World}{a:Option Addr}{n cap:Nat}{q:IntKind}{i:Int}(hT:P.underlying T=some (.slice e))(hk:bX P e=some k)(h:0≤i∧i≤n)(hc:n≤cap) :
  (Instr.slice T (.slice a n cap) (some (.int q i)) none none).run P w=.ok (sliced a i.toNat n cap k) w:=by
 have h1:0≤i∧i≤(cap:Int):=adh;have h2:i≤(n:Int):=h.2;simp[Instr.slice,run_underlying hT,Instr.sliceBounds,run_sliceBound,h1,h2,hc,h.1,dE hk,sliced]
theorem B0 {q:IntKind}{i:Int}(ho:o.op=.slice T x (some y) none none)(hT:P.underlying T=some (.slice e))(hk:bX P e=some k)(hx:viewAt ρ ob x=some (c,.sl xs))(hy:bg ρ y=some (.int q i))(h:0≤i∧i≤xs.length)(hxk:∀v∈xs,(AV.cells v).length=k) :
  Pure P w0 M0 o ρ ob (.v c (.sl (xs.drop i.toNat))) :=
 aJ fun E w ev hw hh=>by
  have hr:=cG hw hh hx;have hy':=bZ hh hy;generalize hq:ev x=u at hr;have hu:∃a n cap,u=.slice a n cap∧xs.length=n∧n≤cap:=by
   cases hr with
   | sl a n cap _ k cv hn hc _ _ _ _=>exact⟨a,n,cap,rfl,hn,hc⟩
  obtain⟨a,n,cap,rfl,hn,hc⟩:=hu;have hel:P.elem T=e:=by simp[Program.elem,hT]
  have hrun:=s5 (P:=P) (w:=w) (T:=T) (a:=a) (n:=n) (cap:=cap) (q:=q) (i:=i) hT hk adh hc;have:=hr.part hk hxk (i:=i.toNat) (j:=n) adh adh;rw[show(xs.drop i.toNat).take (n-i.toNat)=xs.drop i.toNat from aa2 (by simp;omega)] at this;refine⟨_,w,?_,.refl _ _,this⟩;simp only[execOp,ho,hq,hy',abu,Option.map_none,Sem.run_bind,run_sliceAt_slice (P:=P) (w:=w) T _ _ _ _ (by rw[hel];exact hT),hrun,Result.andThen_ok,Sem.run_pure]
theorem nt {f:α→AV}{l:List α}{q:IntKind}{i:Int}(ho:o.op=.slice T x (some y) none none)(hT:P.underlying T=some (.slice e))(hk:bX P e=some k)(hx:viewAt ρ ob x=some (c,.sl (l.map f)))(hy:bg ρ y=some (.int q i))(h:0≤i∧i≤l.length)(hxk:∀z,(AV.cells (f z)).length=k) :
  Pure P w0 M0 o ρ ob (.v c (.sl ((l.drop i.toNat).map f))):=by
 have:=B0 (P:=P) (w0:=w0) (M0:=M0) ho hT hk hx hy (by simpa using h) (mQ hxk);rwa [←List.map_drop] at this
theorem ec {q:IntKind}{i:Int}(ho:o.op=.slice T x (some y) none none)(hT:P.underlying T=some (.slice e))(hk:bX P e=some k)(hx:ρ x=some (.own id))(hl:ob.lookup id=some (.arr e xs))(hy:bg ρ y=some (.int q i))(h:0≤i∧i≤xs.length) :
  Pure P w0 M0 o ρ ob (.vsl id i.toNat (xs.length-i.toNat)) :=
 aJ fun E w ev hw hh=>by
  have hr:=hh x _ hx e xs hl;have hy':=bZ hh hy;obtain⟨vals,⟨hown,hownF⟩,h2,h3⟩:=hw.objs id _ hl;have hu:∃a cap,E.cur id=.slice a xs.length cap∧xs.length≤cap:=by
   rcases hown.2 with⟨hv,hn⟩|⟨g,cap,cur,hv,hgb,hh,hnc,_⟩
   ·exact⟨none,0,by rw[hv,hn],adh⟩
   ·exact⟨_,cap,hv,hnc⟩
  obtain⟨a,cap,hv,hc⟩:=hu;have hel:P.elem T=e:=by simp[Program.elem,hT]
  have hrun:=s5 (P:=P) (w:=w) (T:=T) (a:=a) (n:=xs.length) (cap:=cap) (q:=q) (i:=i) hT hk h hc;refine⟨sliced a i.toNat xs.length cap k,w,?_,.refl _ _,fun e' xs' hl'=>?_⟩
  ·simp only[execOp,ho,hr,hv,hy',abu,Option.map_none,Sem.run_bind,run_sliceAt_slice (P:=P) (w:=w) T _ _ _ _ (by rw[hel];exact hT),hrun,Result.andThen_ok,Sem.run_pure]
  ·rw[hl] at hl';simp only[aaB,Ob.arr.injEq] at hl';obtain⟨rfl,rfl⟩:=hl';exact⟨adh,a,_,cap,hv,by rw[cQ hk];congr 1;omega⟩
theorem B1 {n:Nat}(ho:o.op=.call { callee:=.builtin .len,args:=#[x],argTypes:=#[T] })(hT:P.underlying T=some (.slice e))(hx:ρ x=some (.vsl id i n))(hl:ob.lookup id=some (.arr e xs)) :
  Pure P w0 M0 o ρ ob (.v .pl (int n)) :=
 aJ fun E w ev hw hh=>by
  obtain⟨hle,a,len,cap,hc,hv⟩:=hh x _ hx e xs hl;refine⟨.int .i64 n,w,?_,.refl _ _,.sc _ J⟩;have hel:P.elem T=e:=by simp[Program.elem,hT]
  have hs:ev x=.slice (if cap=i then a else a.map (·.add (i*P.cellsOf e))) n (cap-i):=by rw[hv];unfold sliced;rw[Nat.add_sub_cancel_left]
  simp[execOp,ho,resolve,hs,invoke,builtin,Builtin.len_,run_underlying hT,goInt]
theorem xu {q:IntKind}{n:Nat}{j:Int}(ho:o.op=.indexAddr T x y)(hT:P.underlying T=some (.slice e))(hk:bX P e=some k)(hx:ρ x=some (.vsl id i n))(hl:ob.lookup id=some (.arr e xs))(hy:bg ρ y=some (.int q j))(h:0≤j∧j<n) :
   Pure P w0 M0 o ρ ob (.pel id (i+j.toNat) 0) :=
 aJ fun E w ev hw hh=>by
   obtain⟨hle,a,len,cap',hc,hvx⟩:=hh x _ hx e xs hl;have hi:=bZ hh hy;obtain⟨vals,⟨hown,hownF⟩,h2,h3⟩:=hw.objs id _ hl;rcases hown.2 with⟨hv,hn⟩|⟨g,cap,cur,hv,hgb,hhh,hnc,_⟩
   · omega
   · rw [hv] at hc
     simp only[Value.slice.injEq] at hc;obtain⟨rfl,rfl,rfl⟩:=hc;have hs:ev x=.slice (some ⟨g,i*P.cellsOf e,none⟩) n (cap-i):=by
       rw[hvx];unfold sliced;rw[Nat.add_sub_cancel_left,if_neg adh];simp[Addr.add_lit]
     have hel:P.elem T=e:=by simp[Program.elem,hT]
     refine⟨.pointer (some ⟨g,(i+j.toNat)*P.cellsOf e+0,none⟩),w,?_,.refl _ _,fun e' xs' h'=>?_⟩
     · have hin : 0 ≤ j ∧ j < (n : Int) := h
       simp[execOp,ho,hs,hi,run_indexAt_slice,hel,hT,hin,dE hk,cQ hk,Addr.add_lit,acL]
     · rw [hl] at h'
       simp only[aaB,Ob.arr.injEq] at h';obtain⟨rfl,rfl⟩:=h';exact⟨adh,g,by rw[hv];rfl,rfl⟩
theorem P7 {a:Act}{w:World}{E:Env}(hs:ba P w0 M0 E s a w)(hnd:Nodup s.s=true)(ae:∀b,M0 b→b<w0.w.heap.size)(hl:s.o.lookup id=some (.arr e xs)){g:Nat}(hg:(E.cur id).ownBlock=some g){us:List Value}{ms:List AV}(hlen:us.length=ms.length)
   (hp:p+us.length≤xs.length*P.cellsOf e)(hms:∀(j:Nat) d,ms[j]?=some d→AV.leaf d=true∧bL w (cI M0 (owned E s.o) .pl) (us.getD j undef) d){xs':List AV}(hxl:xs'.length=xs.length)(hxk:∀x∈xs',(AV.cells x).length=P.cellsOf e)
   (hflat:flat xs'=ry (flat xs) p ms):∃cur,w.heap[g]?=some (.cells cur e (0,0))∧p+us.length≤cur.size∧ba P w0 M0 E (s.cK false id (.arr e xs')) a (w.setRow g (ry cur.toList p us).toArray):=by
 obtain⟨vals,⟨hown,hownF⟩,h2,h3⟩:=hs.wok.objs id _ hl;obtain⟨hvl,hform⟩:=hown;rcases hform with⟨hv,hn0⟩|⟨g',cap,cur,hv,hgb,hh,hnc,hcm,hcs,htake⟩
 · rw[hv] at hg;cases hg
 · have hgg : g' = g := by rw [hv] at hg; simpa [Value.ownBlock] using hg
   subst hgg;have hvals:vals.length≤cur.size:=by rw[hvl,hcs];exact abR _ hnc
   have hspl:p+us.length≤vals.length:=adh;refine⟨cur,hh,adh,hs.cK false (fun _=>⟨rfl,.inl ⟨e,xs,_,hl,rfl,by simp[hxl]⟩⟩) hnd ae (fun i hi=>⟨rfl,rfl⟩) (.inr J) (some g') jR (fun _=>aaD _) (fun g hg'=>⟨_,hl,by simp only[aaB] at hg';subst hg';exact hg⟩) (fun b hb=>.inl ⟨_,hl,hb⟩) (fun rep sv=>?_)⟩;refine⟨ry vals p us,⟨⟨by rw[dI hspl,hvl,hxl],.inr ⟨g',cap,_,by rw[hv,hxl],hgb,setRow_heap w _ _ _ e _ hh,by rw[hxl];exact hnc,hcm,?_,?_⟩⟩,hownF⟩,hxk,fun j d hj=>?_⟩
   · rw[adb,dI (by simp;omega)];simpa using hcs
   · rw [hxl, ← hvl]
     have ht:cur.toList.take vals.length=vals:=by rw[hvl];exact htake
     apply abJ;intro j;rw[abo,fD (by simp;omega),fD hspl];by_cases hj:j<vals.length
     · rw [if_pos hj]
       split
       · rfl
       · have : (cur.toList.take vals.length)[j]? = cur.toList[j]? := by rw [abo, if_pos hj]
         rw[←this,ht]
     · rw[if_neg hj,if_neg adh,abg adh]
   · rw [hflat, fD (by rw [bQ xs h2, ← hvl]; omega)] at hj
     rw[aax,fD hspl,hlen];split at hj
     · rename_i hin
       rw[if_pos hin];have:=hms _ d hj;rw[aax] at this;exact⟨this.1,rep .pl _ _ this.2 (by simp)⟩
     · rename_i hin
       rw[if_neg hin];have:=h3 j d hj;rw[aax] at this;exact⟨this.1,rep .pl _ _ this.2 (by simp)⟩
theorem xv (zs:List Value)(n:Nat):(Builtin.zeroCells zs.toArray n).toList=(List.replicate n zs).flatten:=by
 rcases abZ zs.length with h0|h0
 · have : zs = [] := aa4 h0
   subst this;simp[Builtin.zeroCells]
 · have hlen : ∀ n, ((List.replicate n zs).flatten).length = n * zs.length := fun n => by simp
   apply abJ;intro j;unfold Builtin.zeroCells;simp only[adb,acZ,Array.toList_range,aaI];rcases aa9 j (n*zs.length) with hj|hj
   · rw [abX hj, abu]
     have hm:j % zs.length<zs.length:=Nat.mod_lt _ h0;have key:∀(n j:Nat),j<n*zs.length→((List.replicate n zs).flatten)[j]?=zs[j % zs.length]?:=by
       intro n
       induction n with
       | zero=>intro j hj;omega
       | succ n ih =>
         intro j hj;rw[ac2,List.flatten_cons];rcases aa9 j zs.length with h1|h1
         · rw[aa8 h1,Nat.mod_eq_of_lt h1]
         · rw[aa6 h1,ih _ (by rw[acY] at hj;omega),Nat.mod_eq_sub_mod h1]
     rw[key n j hj,aaF hm,getElem!_pos _ _ (by simpa using hm)];simp
   · rw [abg (by simpa using hj), abg (by rw [hlen]; exact hj)]
     rfl
theorem jU {n:Nat} {zv:AV} {zs:List Value} (ho:o.op=.call { callee:=.builtin .clear,args:=#[x],argTypes:=#[T] }) (hd:o.dst=none) (hnd:Nodup s.s=true) (hT:P.underlying T=some (.slice e)) (hk:bX P e=some k) (hx:s.ev x=some (.vsl id i n)) (hl:s.o.lookup id=some (.arr e xs))
   (hz:zeroOf P e=some zs)(hzs:zs.all Value.oneCell'=true)(hzl:zs.length=k)(hzv:zv.cells=zs.map .sc)(ae:∀b,M0 b→b<w0.w.heap.size) :
   Step P w0 M0 o s (s.cK false id (.arr e (xs.take i++(List.replicate n zv++xs.drop (i+n))))):=by
 rintro a w Q ⟨E,hs⟩;obtain⟨hle,ad,len,cap',hc,hvx⟩:=hs.ev hx e xs hl;have hob:=hs.wok.objs id _ hl;obtain⟨vals,⟨hown,hownF⟩,h2,h3⟩:=hob;have hck:=cQ hk;obtain⟨v0,hi0,hv0⟩:∃v0,(P.info? e).bind (·.zero)=some v0∧v0.cells.toList=zs:=by
   unfold zeroOf at hz;rw[aaH] at hz;exact hz
 have hzr:∀w,(zeroValue e).run P w=.ok v0 w:=fun w=>by
   rw[abE] at hi0;obtain⟨inf,q1,q2⟩:=hi0;simp[zeroValue,typeInfo,q1,q2]
 have hs':a.eval x=.slice (if cap'=i then ad else ad.map (·.add (i*P.cellsOf e))) n (cap'-i):=by rw[hvx];unfold sliced;rw[Nat.add_sub_cancel_left]
 have hxk':∀u∈xs.take i++(List.replicate n zv++xs.drop (i+n)),(AV.cells u).length=P.cellsOf e:=fun u hu=>by
   rcases abl.1 hu with hu|hu
   · exact h2 u (abO hu)
   · rcases abl.1 hu with hu | hu
     · rw[List.eq_of_mem_replicate hu,hzv,aaA,hzl,hck]
     · exact h2 u (abp hu)
 have hxl':(xs.take i++(List.replicate n zv++xs.drop (i+n))).length=xs.length:=by simp;omega
 unfold Oper.wp;rcases abZ n with hn0|hn0
 · subst hn0
   have hrun:(execOp a.eval o).run P w=.ok (.value (.tuple #[])) w:=by
     generalize (if cap'=i then ad else ad.map (·.add (i*P.cellsOf e)))=A at hs';cases A<;>simp[execOp,ho,resolve,hs',invoke,builtin,Builtin.clear_,run_underlying hT]
   rw[hrun];simp only[Oper.upon,hd,Act.put];have e1:xs.take i++(List.replicate 0 zv++xs.drop (i+0))=xs:=by simp
   rw[e1];exact⟨E,hs.cK false (fun _=>⟨rfl,.inl ⟨e,xs,_,hl,rfl,rfl⟩⟩) hnd ae (fun i hi=>⟨rfl,rfl⟩) (.inr J) none ⟨rfl,rfl,rfl,aaD _,fun _ _ _=>rfl⟩ (fun _=>aaD _) (fun g hg'=>by cases hg') (fun b hb=>.inl ⟨_,hl,hb⟩) (fun rep sv=>⟨vals,⟨hown,hownF⟩,h2,fun j d hd=>⟨(h3 j d hd).1,rep .pl _ _ (h3 j d hd).2 (by simp)⟩⟩)⟩
 · rcases hown.2 with ⟨hv, hn⟩ | ⟨g, cap, cur, hv, hgb, hhh, hnc, _, hcs, _⟩
   · omega
   · rw [hv] at hc
     simp only[Value.slice.injEq] at hc;obtain⟨rfl,rfl,rfl⟩:=hc;rw[if_neg adh] at hs';simp only[abu,Addr.add_lit,abL] at hs'
     let us:=(List.replicate n zs).flatten
     have hul:us.length=n*k:=by simp[us,hzl]
     have hone:∀u∈us,u.oneCell'=true:=fun u hu=>by
       obtain⟨l,hl1,hl2⟩:=List.mem_flatten.1 hu;rw[List.eq_of_mem_replicate hl1] at hl2;exact aa5.1 hzs u hl2
     have hmul:i*k+n*k≤xs.length*k:=by rw[←acL];exact abR _ hle
     have hft:(flat (xs.take i)).length=i*k:=by rw[bQ (k:=k) (xs.take i) (fun v hv=>by rw[←hck];exact h2 v (abO hv)),aaO,acN adh]
     have hft2:(flat (xs.take (i+n))).length=(i+n)*k:=by rw[bQ (k:=k) (xs.take (i+n)) (fun v hv=>by rw[←hck];exact h2 v (abO hv)),aaO,acN adh]
     have hflr:∀n,flat (List.replicate n zv)=((List.replicate n zs).flatten).map .sc:=fun n=>by
       induction n with
       | zero=>rfl
       | succ n ih =>
         rw[ac2,ac2,List.flatten_cons,aaK,←ih,←hzv];rfl
     obtain⟨cur',q1,q2,q3⟩:=P7 (us:=us) (ms:=us.map .sc) (p:=i*k) (g:=g) (xs':=xs.take i++(List.replicate n zv++xs.drop (i+n))) hs hnd ae hl (by rw[hv];rfl) (by simp) (by rw[hul,hck];exact hmul) (fun j d hd=>by
         rw[aaI,aaH] at hd;obtain⟨u,hu,rfl⟩:=hd;refine⟨rfl,?_⟩;rw[aax,hu];exact .sc u (hone u (abm hu))) hxl' hxk' (by
         rw[gh,gh,hflr];have e1:flat xs=flat (xs.take i)++flat (xs.drop i):=by rw[←gh,abU]
         have e2:flat xs=flat (xs.take (i+n))++flat (xs.drop (i+n)):=by rw[←gh,abU]
         unfold ry;rw[abr]
         congr 1
         · rw[e1,List.take_left' hft]
         · congr 1
           rw[e2,List.drop_left' (by rw[hft2];simp[hul,acL])])
     rw[hhh] at q1;simp only[aaB,Obj.cells.injEq,and_true] at q1;subst q1;have hst:=run_storeCells_at P g (i*k) e us 0 cur w hhh (by simp;omega) hone;simp only[Nat.add_zero] at hst;have hrun:(execOp a.eval o).run P w=.ok (.value (.tuple #[])) (w.setRow g (ry cur.toList (i*k) us).toArray):=by
       obtain⟨m,rfl⟩:∃m,n=m+1:=⟨n-1,adh⟩;have hzc:(Builtin.zeroCells v0.cells (m+1)).toList=us:=by
         have:v0.cells=zs.toArray:=by rw[←hv0]
         rw[this,xv]
       simp[execOp,ho,resolve,hs',invoke,builtin,Builtin.clear_,run_underlying hT,hzr,hzc,hck,hst,ry]
     rw[hrun];simp only[Oper.upon,hd,Act.put];exact⟨E,q3⟩
end
theorem ca {α:Type}(f:Nat→Bool)(t:Nat):∀l:List (Nat×α),(l.filter fun p=>f p.1).lookup t=if f t then l.lookup t else none
 | []=>by simp
 | (u, d) :: r => by
   rw[abz];by_cases hu:f u=true
   · rw [if_pos hu, aq, aq, ca f t r]
     by_cases h:t=u
     · subst h;simp[hu]
     · simp[h]
   · rw [if_neg hu, ca f t r, aq]
     by_cases h:t=u
     · subst h;simp[hu]
     · simp[h]
theorem lH (f:Nat→Bool):∀l:List (Nat×SV),Nodup l=true→Nodup (l.filter fun p=>f p.1)=true
 | [],_=>rfl
 | (t, d) :: r, h => by
   simp only[Nodup,aaZ,abw] at h;rw[abz];split
   · simp only [Nodup, aaZ, abw]
     refine⟨?_,lH f r h.2⟩;rw[ab6] at h ⊢;exact fun x hx=>h.1 x (abA.1 hx).1
   · exact lH f r h.2
theorem DS (k n:Nat):((List.range n).filter (fun j=>decide (k≤j))).length=n-k:=by
 induction n with
 | zero=>simp
 | succ n ihn =>
   rw[abB,abG,aaM,ihn];by_cases hkn:k≤n
   · simp[hkn];omega
   · simp[hkn];omega
variable{L:Array Bool}{o2:List (Nat×Ob)}{X G:List (Nat×SV)}{M:Nat→Prop}
section
variable {P:Program} {w0:Fr}{M0:Nat→Prop}{ops:Array Oper}{Q:St→Prop}
def eI (ops:Array Oper)(k:Nat)(L:Array Bool)(t:Nat):Bool:=(List.range k).all fun j=>L.getD j false||(match(ops[j]?).bind (·.dst) with|some u=>!(Nat.beq u t)|none=>true)
theorem gM {k:Nat}{t:Nat}:eI ops k L t=true↔∀j,j<k→(ops[j]?).bind (·.dst)=some t→L.getD j false=true:=by
 unfold eI;rw[aa5];constructor
 · intro h j hj hd
   have:=h j (aba.2 hj);rw[hd] at this;simpa using this
 · intro h j hj
   have hj:=aba.1 hj;rw[abC];cases hd:(ops[j]?).bind (·.dst) with
   | none=>exact .inr rfl
   | some u =>
     by_cases hu:u=t
     · subst hu;exact .inl (h j hj hd)
     · refine .inr ?_
       simp only[abw];cases hb:Nat.beq u t with
       | false=>rfl
       | true=>exact absurd (aby hb) hu
def R2 (ops:Array Oper)(n k:Nat):Bool:=(List.range k).all fun i=>match ops[i]? with
 | none=>false
 | some o => o.guard.isNone && (match o.dst with | some t => Nat.blt t n | none => false) &&
   (List.range k).all fun j=>match(ops[j]?).bind (·.dst) with
     | some u=>!(looks ops o).contains u||(gg o).contains j
     | none=>false
theorem Pure.mono {o:Oper}{ρ ρ':Operand→Option SV}{ob:List (Nat×Ob)}{d:SV}(h:Pure P w0 M0 o ρ ob d)(hρ:∀x e,ρ x=some e→ρ' x=some e):Pure P w0 M0 o ρ' ob d :=
 fun E w ev hw hx=>h E w ev hw fun x e he=>hx x e (hρ x e he)
theorem kp {id:Nat} {n:Nat} {s0:List (Nat×SV)}  (a k:Nat) (G:List (Nat×SV)) {Q':Exit→St→Prop} (hm:P.follows .mixedOrders=true) (hok:l7 ops=true) (htl:fC ops k=true) (hmid:R2 ops n k=true) (hka:Nat.blt a k=true) (hks:Nat.ble k ops.size=true)
   (hG:∀t d,(G.filter fun p=>eI ops k #[] p.1).lookup t=some d→s0.lookup t=some d)(hnd:Nodup G=true)
   (hset:∀i,i<k→∃t d,(ops[i]?).bind (·.dst)=some t∧G.lookup t=some d)
   (h1:∀i o t d,i<k→i≠a→ops[i]?=some o→o.dst=some t→G.lookup t=some d→(kS ops ops.size i).contains a=false→Pure P w0 M0 o (fx ops o (St.ev ⟨n,G,o1⟩)) o1 d)
   (h2:∀i o t d,i<k→i≠a→ops[i]?=some o→o.dst=some t→G.lookup t=some d→(kS ops ops.size a).contains i=false→Pure P w0 M0 o (fx ops o (St.ev ⟨n,G,o2⟩)) o2 d)
   (hA:∀o X,ops[a]?=some o→Nodup X=true→(∀t d,X.lookup t=some d→G.lookup t=some d)→(∀t,t∈looks ops o→X.lookup t=G.lookup t)→∃t d s',o.dst=some t∧G.lookup t=some d∧Step P w0 M0 o ⟨n,X,o1⟩ s'∧fm P w0 M0 s' ⟨n,ins t d X,o2⟩)
   (hend:rU P w0 M0 ops (fun s=>∃s',fm P w0 M0 s s'∧Q' .normal s') k ⟨n,G,o2⟩):aw P w0 M0 (.region id ops true) ⟨n,s0,o1⟩ Q':=by
 have hka:a<k:=by simpa using hka
 have hks:=aaz hks;obtain⟨hns,hsp⟩:=mM hok;have hlt:∀i o,ops[i]?=some o→∀j∈gg o,j<i:=fun i o ho=>(hsp i o ho).1
 have hmid':∀i o,i<k→ops[i]?=some o→o.guard=none∧(∃t,o.dst=some t∧t<n)∧∀j u,j<k→(ops[j]?).bind (·.dst)=some u→u∈looks ops o→j∈gg o:=by
   intro i o hi ho;unfold R2 at hmid;rw[aa5] at hmid;have h:=hmid i (aba.2 hi);simp only[ho,aaZ,aa5] at h;refine⟨by simpa using h.1.1,?_,fun j u hj hu hl=>?_⟩
   · cases hd : o.dst with
     | none=>rw[hd] at h;exact absurd h.1.2 (by simp)
     | some t=>rw[hd] at h;exact⟨t,rfl,by simpa using h.1.2⟩
   · have := h.2 j (aba.2 hj)
     rw[hu] at this;simp only[abC,abw] at this;rcases this with h'|h'
     · have : (looks ops o).contains u = true := abv.2 hl
       rw[h'] at this;cases this
     · exact abv.1 h'
 have uniq:∀i j o p t,i<k→j<k→ops[i]?=some o→ops[j]?=some p→o.dst=some t→p.dst=some t→i=j:=by
   intro i j o p t hi hj ho hp hd hd';by_cases hij:i=j
   · exact hij
   · exact absurd J (((hsp i o ho).2 j p hp hij).1 t t hd hd')
 let oL:Array Bool→List (Nat×Ob):=fun L=>if L.getD a false then o2 else o1
 let sL:Array Bool→St:=fun L=>⟨n,G.filter (fun p=>eI ops k L p.1),oL L⟩
 have main : ∀ (fuel : Nat) (L : Array Bool) (ac : Act) (w : World), L.size = ops.size → ou ops L → (∀ j, k ≤ j → L.getD j false = false) → pv P w0 M0 (sL L) ac w →
     ((List.range ops.size).filter (fun j=>!L.getD j false)).length≤fuel →
     wpAny P .any ops (fun e a' w'=>e=.normal∧∃s',(∃s'',fm P w0 M0 s' s''∧Q' .normal s'')∧pv P w0 M0 s' a' w') fuel L ac w:=by
   intro fuel;have ready_ne:∀(L:Array Bool),L.size=ops.size→∀j,j<ops.size→L.getD j false=false→Region.ready .any ops L≠[]:=by
     intro L hL j
     induction j using Nat.strongRecOn with
     | _ j ih =>
       intro hj hf;by_cases hall:∀i∈gg ops[j],L.getD i false=true
       · intro he
         have:j∈Region.ready .any ops L:=gJ.2 ⟨by
           have:L[j]?=some L[j]:=abd adh;simp[this] at hf ⊢;exact hf,ops[j],abd hj,hall⟩
         rw[he] at this;cases this
       · simp only [Classical.not_forall] at hall
         obtain⟨i,hi,hif⟩:=hall;have hij:=hlt j ops[j] (abd hj) i hi;exact ih i hij adh (by cases hh:L.getD i false<;>simp_all)
   -- once all up to k are carried out
   have rest:∀(f:Nat)(L:Array Bool)(ac:Act)(w:World),L.size=ops.size→(∀j,k≤j→L.getD j false=false)→(∀j,j<k→L.getD j false=true)→pv P w0 M0 (sL L) ac w→((List.range ops.size).filter (fun j=>!L.getD j false)).length≤f →
       wpAny P .any ops (fun e a' w'=>e=.normal∧∃s',(∃s'',fm P w0 M0 s' s''∧Q' .normal s'')∧pv P w0 M0 s' a' w') f L ac w:=by
     intro f L ac w hL hk hall hs hf;have hiff:∀j,j<ops.size→(L.getD j false=true↔j<k):=fun j hj=>⟨fun h=>(by
       rcases aa9 j k with h'|h'
       · exact h'
       · rw[hk j h'] at h;cases h),hall j⟩
     have h3:(List.range ops.size).filter (fun j=>!L.getD j false)=(List.range ops.size).filter (fun j=>decide (k≤j)):=by
       apply ada;intro j hj;have hj':=aba.1 hj;cases hv:L.getD j false
       · have : ¬ j < k := fun h => by rw [(hiff j hj').2 h] at hv; cases hv
         simp;omega
       · have := (hiff j hj').1 hv
         simp;omega
     rw[h3,DS] at hf;have hs2:pv P w0 M0 ⟨n,G,o2⟩ ac w:=by
       refine eW (s:=sL L) (s':=⟨n,G,o2⟩) J (by show o2=oL L;simp only[oL];rw[if_pos (hall a hka)]) (fun t d ht=>?_) ac w hs;show(G.filter (fun p=>eI ops k L p.1)).lookup t=some d;rw[ca,if_pos (gM.2 fun j hj _=>hall j hj)];exact ht
     exact hend f L ac w hL hiff hs2 hf
   induction fuel with
   | zero =>
     intro L ac w hL hc hk hs hfu;have hall:∀j,j<ops.size→L.getD j false=true:=by
       intro j hj;cases hf:L.getD j false
       · have : j ∈ (List.range ops.size).filter (fun j => !L.getD j false) := abA.2 ⟨aba.2 hj, by simp [hf]⟩
         have:=acD this;omega
       · rfl
     exact rest 0 L ac w hL hk (fun j hj=>hall j adh) hs hfu
   | succ fuel ih =>
     intro L ac w hL hc hk hs hfu;by_cases hallk:∀j,j<k→L.getD j false=true
     · exact rest _ L ac w hL hk hallk hs hfu
     refine⟨fun hr=>?_,fun i hi=>?_⟩
     · exfalso
       apply hallk;intro j hj;cases hf:L.getD j false
       · exact absurd hr (ready_ne L hL j adh hf)
       · rfl
     · obtain ⟨hni, o, ho, hpre⟩ := gJ.1 hi
       have his:=(abn.1 ho).1;have BQ:L.getD i false=false:=by
         have hx:L[i]?=some L[i]:=abd adh;simp[hx] at hni ⊢;exact hni
       have hik:i<k:=by
         rcases aa9 i k with h|h
         · exact h
         · exfalso
           apply hallk;unfold fC at htl;rw[aa5] at htl;have h2:=htl i (aba.2 his);rw[abC] at h2;rcases h2 with h2|h2
           · have : i < k := by simpa using h2
             omega
           · rw [aa5] at h2
             exact fun j hj=>e8 hc ops.size i o ho hpre hlt j (abv.1 (h2 j (aba.2 adh)))
       obtain⟨hgd,⟨ti,hdst,hti⟩,hread⟩:=hmid' i o hik ho;obtain⟨t',di,ht',Ly⟩:=hset i hik;have hb:(ops[i]?).bind (·.dst)=some ti:=by rw[ho];exact hdst
       rw[hb] at ht';simp only[aaB] at ht';subst ht';have hlook:∀t,t∈looks ops o→(sL L).s.lookup t=G.lookup t:=fun t ht=>by
         show(G.filter (fun p=>eI ops k L p.1)).lookup t=_;rw[ca,if_pos (gM.2 fun j hj hd=>hpre j (hread j t hj hd ht))]
       have hkeep:∀t,t≠ti→eI ops k (L.setIfInBounds i true) t=true→eI ops k L t=true:=fun t hne h=>by
         rw[gM] at h ⊢;intro j hj hd;have:=h j hj hd;rw[cr adh] at this;by_cases hji:j=i
         · subst hji;rw[hb] at hd;simp only[aaB] at hd;exact absurd hd.symm hne
         · rwa [if_neg hji] at this
       have hself:eI ops k L ti=false:=by
         cases hq:eI ops k L ti with
         | false=>rfl
         | true=>have:=gM.1 hq i hik hb;rw[BQ] at this;cases this
       have hnone:(sL L).s.lookup ti=none:=by
         show(G.filter (fun p=>eI ops k L p.1)).lookup ti=_;rw[ca,hself];rfl
       have hstep:∃s',Step P w0 M0 o (sL L) s'∧fm P w0 M0 s' (sL (L.setIfInBounds i true)):=by
         have hfin:∀ob,ob=oL (L.setIfInBounds i true)→fm P w0 M0 ⟨n,ins ti di (sL L).s,ob⟩ (sL (L.setIfInBounds i true)):=fun ob hob=>by
           refine eW J hob.symm (fun t d ht=>?_);have ht':(G.filter (fun p=>eI ops k (L.setIfInBounds i true) p.1)).lookup t=some d:=ht;rw[ca] at ht';split at ht'
           · rename_i hkp
             rw[aC];by_cases hne:t=ti
             · subst hne
               rw[if_pos rfl,←Ly,ht']
             · rw [if_neg hne]
               show(G.filter (fun p=>eI ops k L p.1)).lookup t=_;rw[ca,if_pos (hkeep t hne hkp)];exact ht'
           · cases ht'
         by_cases hia:i=a
         · subst hia
           have Tq:Nodup (sL L).s=true:=lH _ _ hnd;obtain⟨t,d,s',g1,g2,g3,g4⟩:=hA o (sL L).s ho Tq (fun t d ht=>by
             have ht':(G.filter (fun p=>eI ops k L p.1)).lookup t=some d:=ht;rw[ca] at ht';split at ht'
             · exact ht'
             · cases ht') hlook
           rw[hdst] at g1;simp only[aaB] at g1;subst g1;rw[Ly] at g2;simp only[aaB] at g2;subst g2;refine⟨s',?_,g4.trans (hfin o2 ?_)⟩
           · have : sL L = ⟨n, (sL L).s, o1⟩ := by show (⟨_, _, oL L⟩ : St) = _; simp only [oL]; rw [BQ]; rfl
             rw[this];exact g3
           · simp only[oL];rw[cr adh,if_pos rfl];rfl
         · have hL' : (L.setIfInBounds i true).getD a false = L.getD a false := by rw [cr adh, if_neg (abN hia)]
           have hpure:Pure P w0 M0 o (fx ops o (St.ev ⟨n,G,oL L⟩)) (oL L) di:=by
             simp only[oL];by_cases Yh:L.getD a false=true
             · rw [if_pos Yh]
               refine h2 i o ti di hik hia ho hdst Ly ?_;cases hq:(kS ops ops.size a).contains i with
               | false=>rfl
               | true =>
                 have hao:ops[a]?=some ops[a]:=abd adh;have:=e8 hc ops.size a ops[a] hao (fun j hj=>hc a _ hao Yh j hj) hlt i (abv.1 hq);rw[BQ] at this;cases this
             · rw [if_neg Yh]
               refine h1 i o ti di hik hia ho hdst Ly ?_;cases hq:(kS ops ops.size i).contains a with
               | false=>rfl
               | true=>exact absurd (e8 hc ops.size i o ho hpre hlt a (abv.1 hq)) Yh
           have hpure':Pure P w0 M0 o (sL L).ev (sL L).o di:=hpure.mono fun x e hx=>by
             cases x with
             | tmp t =>
               by_cases hcn:(looks ops o).contains t=true
               · simp only [fx, hcn, if_true] at hx
                 show(sL L).s.lookup t=some e;rw[hlook t (abv.1 hcn)];exact hx
               · simp only[fx,hcn] at hx;cases hx
             | const v=>exact hx
             | func f=>exact hx
             | global g=>exact hx
           refine⟨_,lQ hdst hti hpure',hfin _ ?_⟩;show oL L=_;simp only[oL];rw[hL']
       obtain⟨s',hst,himp⟩:=hstep;unfold wpOp;simp only[ho,Region.wanted,hgd,if_true];refine .inl (Oper.wp_mono (fun a' w' h'=>?_) (hst ac w _ hs));refine ih (L.setIfInBounds i true) a' w' (by simp[hL]) (fun j p hp zF x hx=>?_) (fun j hj=>?_) (himp a' w' h') ?_
       · rw [cr adh] at zF ⊢
         by_cases hji:j=i
         · subst hji
           obtain rfl:p=o:=by rw[ho] at hp;exact(Option.some.inj hp).symm
           split
           · rfl
           · exact hpre x hx
         · rw [if_neg hji] at zF
           split
           · rfl
           · exact hc j p hp zF x hx
       · rw[cr adh,if_neg adh];exact hk j hj
       · have hlt' := filter_lt (fun j => !L.getD j false) (fun j => !(L.setIfInBounds i true).getD j false) (fun x hx => by
           rw[cr adh] at hx;split at hx
           · cases hx
           · exact hx) (List.range ops.size) i (aba.2 his) (by rw[BQ];rfl) (by rw[cr adh,if_pos J];rfl)
         omega
 rintro ac w hs;have hw:bD w0.dr w.heap.size w { w with drawn:=w.drawn+1 }:=(Below.refl _ _).drew;have h0 := main ops.size (Array.replicate ops.size false) ac { w with drawn := w.drawn + 1 } (by simp) (fun i o ho hL => by
     have his:=(abn.1 ho).1;simp[his] at hL) (fun j hj=>by
     rcases aa9 j ops.size with h|h<;>simp[h]) (by
     refine eW (s:=⟨n,s0,o1⟩) (s':=sL (Array.replicate ops.size false)) J ?_ (fun t d ht=>hG t d ?_) ac _ (hs.grow hw)
     · show oL _ = o1
       simp only[oL];rw[if_neg];have:a<ops.size:=adh;simp[this]
     · have ht' : (G.filter (fun p => eI ops k (Array.replicate ops.size false) p.1)).lookup t = some d := ht
       rw[ca] at ht' ⊢;split at ht'
       · rename_i hkp
         rw[if_pos,ht'];rw[gM] at hkp ⊢;intro j hj hd;have:=hkp j hj hd;have hjs:j<ops.size:=adh;simp[hjs] at this
       · cases ht') (by
     have:=abT (fun j=>!(Array.replicate ops.size false).getD j false) (List.range ops.size);simpa using this)
 refine iU (l6 hm sO h0) fun e a' w' ⟨he,s',⟨s2,hi,hq⟩,h2⟩=>?_
 subst he;exact⟨s2,hq,hi a' w' h2⟩
theorem Mg {s:St}{l:List (Nat×SV)}{o':List (Nat×Ob)}(ae:∀b,M0 b→b<w0.w.heap.size)
   (hl:∀t d,l.lookup t=some d→s.s.lookup t=some d∨(∃q a,s.s.lookup t=some q∧To s.o o' q=some a∧d=.v .pl a)∨(∃i,d=.own i∧o'.lookup i=none∧t<s.n))(ho':∀id ob,o'.lookup id=some ob→s.o.lookup id=some ob):fm P w0 M0 s ⟨s.n,l,o'⟩:=by
 rintro a w ⟨E,hs⟩;have h2:ba P w0 M0 E ⟨s.n,[],o'⟩ a w:=by
   have hown:∀b,owned E o' b→owned E s.o b:=fun b ⟨id,ob,h1,h2⟩=>⟨id,ob,ho' id ob h1,h2⟩
   refine⟨hs.size,hs.defers,fun t d ht=>by simp at ht,fun id ob hid=>?_,fun id ob id' ob' b h1 h2=>hs.wok.disj id ob id' ob' b (ho' _ _ h1) (ho' _ _ h2),hs.wok.below,hs.wok.pins⟩;have:=hs.wok.objs id ob (ho' id ob hid);cases ob with
   | arr e xs =>
     obtain⟨vals,h1,h2,h3⟩:=this;exact⟨vals,h1,h2,fun j d hd=>⟨(h3 j d hd).1,(h3 j d hd).2.cm (dW hown .pl)⟩⟩
   | box e cs =>
     obtain⟨vals,h1,h2,h3,h4⟩:=this;exact⟨vals,h1,h2,h3,fun j sv hj=>⟨(h4 j sv hj).1,(h4 j sv hj).2.1,(h4 j sv hj).2.2.mN ho'⟩⟩
   | mp ks vs =>
     obtain⟨es,clock,h1,h2,h3,h4,h5⟩:=this;exact⟨es,clock,h1,h2,h3,h4,fun j d hd=>(h5 j d hd).cm (dW hown .pl)⟩
   | nar e cs ln =>
     obtain⟨n,vals,h1,h2,h3,h4,h5⟩:=this;exact⟨n,vals,h1,h2,h3,h4.cm hown,h5⟩
   | nmp ks cs ln =>
     obtain⟨es,clock,h1,h2,h3,h4,h5,h6,h7⟩:=this;exact⟨es,clock,h1,h2,h3,h4,h5,h6.cm hown,h7⟩
 refine⟨E,h2.size,h2.defers,fun t d ht=>?_,h2.wok⟩;rcases hl t d ht with h|⟨q,av,h3,h4,rfl⟩|⟨i,rfl,hi,htn⟩
 · have := hs.slots t d h
   exact⟨this.1,this.2.mN ho'⟩
 · have := hs.slots t q h3
   exact⟨this.1,L6 hs.wok ho' ae this.2 h4⟩
 · refine ⟨htn, fun e xs hh => ?_⟩
   have hh':o'.lookup i=some (.arr e xs):=hh;rw[hi] at hh';cases hh'
theorem vy (ids:List Nat):∀(X:List (Nat×SV))(t:Nat)(d:SV),Nodup X=true→X.lookup t=some d→d.safe ids=true→(X.filter fun p=>p.2.safe ids).lookup t=some d
 | [],t,d,_,h,_=>by simp at h
 | (u, e) :: r, t, d, hn, h, hs => by
   rw[aq] at h;have hn':=hn;simp only[Nodup,aaZ,abw] at hn;rw[abz];split at h
   · rename_i ht
     simp only[aaB] at h;subst h;rw[if_pos hs,aq,if_pos ht]
   · rename_i ht
     have ih:=vy ids r t d hn.2 h hs;split
     · rw[aq,if_neg ht];exact ih
     · exact ih
theorem vz (g:Nat→Ob→Ob)(i:Nat):∀l:List (Nat×Ob),(l.map fun p=>(p.1,g p.1 p.2)).lookup i=(l.lookup i).map (g i)
 | []=>by simp
 | (a, b) :: r => by
   rw[abx,aq,aq,vz g i r];split
   · rename_i h;subst h;rfl
   · rfl
theorem DT {o:Oper}{n t u id:Nat}{f:FuncId}{e:TypeId}{xs ys:List AV}(ho:o.op=.call { callee:=.value (.func f),args:=#[.tmp u],argTypes:=ats })(hd:o.dst=some t)(hn:Nat.blt t n=true)(hun:Nat.blt u n=true)
   (hX:X.lookup u=some (.own id))(hnd:Nodup X=true)(hl:o1.lookup id=some (.arr e xs))(h:lB P f [.own 0] [(0,.arr e xs)] (.own 0) [(0,.arr e ys)])(hsafe:∀t' d,X.lookup t'=some d→t'≠u→d.safe [id]=true)(hid:o2.lookup id=none)
   (ho2:∀i ob,o2.lookup i=some ob→∃ob1,o1.lookup i=some ob1∧ob=ob1.after [id])(ae:∀b,M0 b→b<w0.w.heap.size):∃s',Step P w0 M0 o ⟨n,X,o1⟩ s'∧fm P w0 M0 s' ⟨n,ins t (.v .pl (.sl ys)) X,o2⟩:=by
 have hrn:rn [(0,id)] 0=id:=rfl;have hst:=aR (P:=P) (w0:=w0) (M0:=M0) (o:=o) (s:=⟨n,X,o1⟩) (dc:=.v .pl (.clo f [])) (f:=f) (caps:=[]) (svs:=[.own id]) [(0,id)] ho hd hn hnd rfl rfl (by show PL _ [Operand.tmp u]=_;simp only[PL,St.ev,hX]) h ⟨.inl rfl,trivial⟩ ⟨by show o1.lookup (rn [(0,id)] 0)=_;rw[hrn];exact hl,trivial⟩ rfl rfl rfl rfl rfl ae;refine⟨_,hst,?_⟩;have hlk:∀i,((⟨n,X,o1⟩:St).after [(0,id)] [(0,.arr e ys)]).o.lookup i=(o1.lookup i).map fun ob=>if i=id then .arr e ys else ob.after [id]:=by
   intro i;show(o1.map fun p=>(p.1,((zG [(0,id)] [(0,.arr e ys)]).lookup p.1).getD (p.2.after (cY [(0,id)] [(0,Ob.arr e ys)])))).lookup i=_;rw[vz (fun a b=>((zG [(0,id)] [(0,.arr e ys)]).lookup a).getD (b.after (cY [(0,id)] [(0,Ob.arr e ys)])))]
   congr 1
   funext b
   show((List.lookup i [(id,(Ob.arr e ys).kh [(0,id)])]).getD (b.after [id]))=_;rw[aq];by_cases h3:i=id
   · rw[if_pos h3,if_pos h3];rfl
   · rw[if_neg h3,if_neg h3];rfl
 refine Mg ae (fun t' d ht'=>?_) (fun i ob hi=>?_)
 · rw [aC] at ht'
   show(ins t (SV.own id) _).lookup t'=some d∨_;rw[aC];by_cases h1:t'=t
   · rw [if_pos h1] at ht' ⊢
     simp only[aaB] at ht';subst ht';refine .inr (.inl ⟨.own id,.sl ys,?_,?_,rfl⟩)
     · show (ins t (SV.own id) _).lookup t' = _
       rw[aC,if_pos h1]
     · show To ((⟨n, X, o1⟩ : St).after [(0, id)] [(0, .arr e ys)]).o o2 (.own id) = some (.sl ys)
       have h2:=hlk id;rw[hl,abu,if_pos rfl] at h2;simp only[To,DM,h2,hid]
   · rw [if_neg h1] at ht' ⊢
     by_cases h2:t'=u
     · subst h2
       rw[hX] at ht';simp only[aaB] at ht';exact .inr (.inr ⟨id,ht'.symm,hid,by show t'<n;simpa using hun⟩)
     · exact .inl (vy _ X t' d hnd ht' (hsafe t' d ht' h2))
 · show ((⟨n, X, o1⟩ : St).after [(0, id)] [(0, .arr e ys)]).o.lookup i = some ob
   obtain⟨ob1,h1,h2⟩:=ho2 i ob hi;rw[hlk,h1,abu,if_neg (fun h3=>by rw[h3,hid] at hi;cases hi),h2]
def AV.Vc:AV→AV
 | .sc (.slice none 0 0)=>.sl []
 | d=>d
def AV.norm:AV→AV
 | .agg cs=>.agg (cs.map AV.Vc)
 | d=>d.Vc
theorem Ic {w:World}{d:AV}(h:bL w M v d):bL w M v d.Vc:=by
 unfold AV.Vc;split
 ·cases h;exact .sl none 0 0 [] 0 (fun _=>undef) J (aaD _) (by simp) (fun h=>absurd h adh) (fun j d hd=>by simp[flat] at hd) (fun j d hd=>by simp[flat] at hd)
 ·exact h
theorem Mh {d:AV}(h:d.leaf=true):d.Vc.leaf=true:=by
 unfold AV.Vc;split
 ·rfl
 ·exact h
theorem DU {w:World}{d:AV}(h:bL w M v d):bL w M v d.norm:=by
 cases d with
 | agg cs =>
   cases h with
   | agg vs _ hn hl hr =>
     refine .agg vs _ (by simpa using hn) (fun j d hd=>?_) (fun j d hd=>?_)
     · rw [aaI, aaH] at hd
       obtain⟨d0,h0,rfl⟩:=hd;exact Mh (hl j d0 h0)
     · rw [aaI, aaH] at hd
       obtain⟨d0,h0,rfl⟩:=hd;exact Ic (hr j d0 h0)
 | _=>exact Ic h
theorem ar {o:Oper}{ρ:Operand→Option SV}{ob:List (Nat×Ob)}{c:fX}{d d':AV}(h:Pure P w0 M0 o ρ ob (.v c d))(e:d.norm=d'):Pure P w0 M0 o ρ ob (.v c d'):=by
 subst e;intro E w ev hw hx;have:=h E w ev hw hx;unfold sM at this ⊢;generalize (execOp ev o).run P w=r at *
 match r,this with
 | .ok (.value v) w',hy=>exact⟨hy.1,DU hy.2⟩
 | .ok (.enter f args) w',hy=>exact⟨hy.1,hy.2.mono fun e w'' ⟨v,he,hb,hv⟩=>⟨v,he,hb,DU hv⟩⟩
def JW (o1:List (Nat×Ob))(ids:List Nat):List (Nat×Ob)→Prop
 | []=>True
 | (a,ob) :: r=>(∃ob1,o1.lookup a=some ob1∧ob=ob1.after ids)∧JW o1 ids r
theorem JW.out {o1:List (Nat×Ob)}{ids:List Nat}:∀{o2:List (Nat×Ob)},JW o1 ids o2→∀i ob,o2.lookup i=some ob→∃ob1,o1.lookup i=some ob1∧ob=ob1.after ids
 | [],_,i,ob,h=>by simp at h
 | (a, b) :: r, h, i, ob, hl => by
   rw[aq] at hl;split at hl
   · rename_i he;subst he;simp only[aaB] at hl;subst hl;exact h.1
   · exact JW.out h.2 i ob hl
theorem DV {ids:List Nat}{u:Nat}(h:(G.all fun p=>p.2.safe ids||Nat.beq p.1 u)=true){t:Nat}{d:SV}(hl:G.lookup t=some d)(hne:t≠u):d.safe ids=true:=by
 have:=aa5.1 h _ (dJ hl);rw[abC] at this;rcases this with h1|h1
 ·exact h1
 ·exact absurd (aby h1) hne
def P8 (N m:Nat):List Bool:=(List.range N).map fun j=>Nat.blt j m
def nG (P:Program)(w0:Fr)(M0:Nat→Prop)(ops:Array Oper)(Q:St→Prop):Nat→Array Bool→St→Prop
 | 0,L,s=>Region.ready .any ops L=[]∧Q s
 | n+1,L,s=>(Region.ready .any ops L=[]∧Q s)∨(Region.ready .any ops L≠[]∧∀i∈Region.ready .any ops L,∃o,ops[i]?=some o∧o.guard=none∧∃s',Step P w0 M0 o s s'∧nG P w0 M0 ops Q n (L.setIfInBounds i true) s')
theorem Ie:∀ (n fuel:Nat)(L:Array Bool)(s:St)(a:Act)(w:World),nG P w0 M0 ops Q n L s→n≤fuel→pv P w0 M0 s a w→wpAny P .any ops (fun e a' w'=>e=.normal∧∃s',Q s'∧pv P w0 M0 s' a' w') fuel L a w
 | 0, fuel, L, s, a, w, ⟨h, hq⟩, hf, hs => by
   cases fuel with
   | zero=>exact⟨h,rfl,s,hq,hs⟩
   | succ f=>exact⟨fun _=>⟨rfl,s,hq,hs⟩,fun i hi=>by rw[h] at hi;cases hi⟩
 | n + 1, fuel, L, s, a, w, h, hf, hs => by
   cases fuel with
   | zero=>omega
   | succ f =>
     rcases h with⟨h,hq⟩|⟨h,hall⟩
     · exact⟨fun _=>⟨rfl,s,hq,hs⟩,fun i hi=>by rw[h] at hi;cases hi⟩
     · refine ⟨fun hr => absurd hr h, fun i hi => ?_⟩
       obtain⟨o,ho,hg,s',hst,hx⟩:=hall i hi;unfold wpOp;simp only[ho,Region.wanted,hg,if_true];exact .inl (Oper.wp_mono (fun a' w' h'=>Ie n f _ s' a' w' hx adh h') (hst a w _ hs))
theorem bM {n:Nat}{s:St}(hn:Nat.ble n (ops.size-m)=true)(h:nG P w0 M0 ops Q n (P8 ops.size m).toArray s):rU P w0 M0 ops Q m s:=by
 intro f L a w hL hiff hs hf;have:L=(P8 ops.size m).toArray:=by
   apply Array.ext
   · simp[P8,hL]
   · intro j h1 h2
     have:=hiff j adh;simp only[P8,List.getElem_toArray,aco,ac5];rw[abc,abd h1,acI] at this;cases hb:L[j] with
     | true=>rw[hb] at this;have:=this.1 rfl;symm;simpa using this
     | false =>
       symm
       cases hc:Nat.blt j m with
       | false=>rfl
       | true => have h3 : j < m := by simpa using hc
                 rw[this.2 h3] at hb;cases hb
 subst this;exact Ie n f _ s a w h (by have:=aaz hn;omega) hs
theorem Tr {n:Nat}{s:St}(hr:Region.ready .any ops L=[])(h:Q s):nG P w0 M0 ops Q n L s:=by
 cases n with
 | zero=>exact⟨hr,h⟩
 | succ n=>exact .inl ⟨hr,h⟩
theorem aH {n:Nat}{s s':St}{o:Oper}(hr:Region.ready .any ops L=[i])(ho:ops[i]?=some o)(hg:o.guard=none)(hst:Step P w0 M0 o s s')(h:nG P w0 M0 ops Q n (L.setIfInBounds i true) s'):nG P w0 M0 ops Q (n+1) L s :=
 .inr ⟨by rw[hr];exact fun h=>(by cases h),fun i' hi=>by
  rw[hr,aaY] at hi;subst hi;exact⟨o,ho,hg,s',hst,h⟩⟩
theorem eU {n j:Nat}{s s' s'':St}{o p:Oper}(hr:Region.ready .any ops L=[i,j])(ho:ops[i]?=some o)(hp:ops[j]?=some p)(hg:o.guard=none)(hg':p.guard=none)(hst:Step P w0 M0 o s s')(hst':Step P w0 M0 p s s'')
  (h:nG P w0 M0 ops Q n (L.setIfInBounds i true) s')(h':nG P w0 M0 ops Q n (L.setIfInBounds j true) s''):nG P w0 M0 ops Q (n+1) L s :=
 .inr ⟨by rw[hr];exact fun h=>(by cases h),fun i' hi=>by
  rw[hr] at hi;rcases aa3.1 hi with rfl|hi
  ·exact⟨o,ho,hg,s',hst,h⟩
  ·rw[aaY] at hi;subst hi;exact⟨p,hp,hg',s'',hst',h'⟩⟩
theorem aM {o:Oper}{s:St}{t:Nat}{d:SV}(hd:o.dst=some t)(hn:Nat.blt t s.n=true)(h:Pure P w0 M0 o s.ev s.o d):Step P w0 M0 o s (s.put t d):=lQ hd (by simpa using hn) h
theorem Mi {n:Nat}{s s':St}(hi:fm P w0 M0 s s')(h:nG P w0 M0 ops (fun s=>∃s',fm P w0 M0 s s'∧Q s') n L s'):nG P w0 M0 ops (fun s=>∃s',fm P w0 M0 s s'∧Q s') n L s:=by
 have e1:∀{o s1},Step P w0 M0 o s' s1→Step P w0 M0 o s s1:=fun hst a w Q' hsim=>hst a w Q' (hi a w hsim)
 cases n with
 | zero=>exact⟨h.1,let⟨s2,h1,h2⟩:=h.2;⟨s2,hi.trans h1,h2⟩⟩
 | succ n =>
   rcases h with⟨h0,s2,h1,h2⟩|⟨h0,hall⟩
   · exact .inl ⟨h0,s2,hi.trans h1,h2⟩
   · exact .inr ⟨h0,fun i hi'=>let⟨o,ho,hg,s1,hst,hx⟩:=hall i hi';⟨o,ho,hg,s1,e1 hst,hx⟩⟩
theorem bf {n:Nat}{s:St}(hr:Region.ready .any ops L=[])(h:Q s):nG P w0 M0 ops (fun s=>∃s',fm P w0 M0 s s'∧Q s') n L s:=Tr hr ⟨s,fm.refl _,h⟩
theorem P9 {o:Oper}{ρ:Operand→Option SV}{ob:List (Nat×Ob)}{f:FuncId}{caps:Array Operand}{cs:List qw}(ho:o.op=.makeFunc (.func f) #[] caps)(hc:Ap ρ caps.toList=some cs):Pure P w0 M0 o ρ ob (.fn f cs) :=
 aJ fun E w ev hw h=>by
   have key:∀(l:List Operand)(cs:List qw),Ap ρ l=some cs→l.length=cs.length∧∀(j:Nat) c,cs[j]?=some c→Dw M0 w E ob ((l.map ev).getD j undef) c:=by
     intro l
     induction l with
     | nil=>intro cs hcs;simp only[Ap,aaB] at hcs;subst hcs;exact⟨rfl,fun j c hj=>by simp at hj⟩
     | cons x r ih =>
       intro cs hcs;unfold Ap at hcs;split at hcs
       · rename_i id cs0 hx hr
         simp only[aaB] at hcs;subst hcs;obtain⟨g1,g2⟩:=ih cs0 hr;refine⟨by simp[g1],fun j c hj=>?_⟩;cases j with
         | zero=>simp only[abf,aaB] at hj;subst hj;exact h x _ hx
         | succ j=>exact g2 j c (by simpa using hj)
       · rename_i d cs0 hx hr
         simp only[aaB] at hcs;subst hcs;obtain⟨g1,g2⟩:=ih cs0 hr;refine⟨by simp[g1],fun j c hj=>?_⟩;cases j with
         | zero=>simp only[abf,aaB] at hj;subst hj;exact h x _ hx
         | succ j=>exact g2 j c (by simpa using hj)
       · cases hcs
   obtain⟨g1,g2⟩:=key _ _ hc;refine⟨.func (.func f) #[] (caps.toList.map ev).toArray,w,?_,.refl _ _,(caps.toList.map ev),rfl,by simpa using g1,g2⟩;simp[execOp,ho,Instr.makeFunc]
   try (apply acw;simp)
end
theorem DW {P:Program}{w0:Fr}{M0:Nat→Prop}{o:Oper}{ρ:Operand→Option SV}{ob:List (Nat×Ob)}{x y:Operand}{T T':TypeId}{a b:Int}(ho:o.op=.call { callee:=.builtin .max,args:=#[x,y],argTypes:=#[T,T'] })(hx:bg ρ x=some (.int .i64 a))(hy:bg ρ y=some (.int .i64 b)):Pure P w0 M0 o ρ ob (.v .pl (int (if a<b then b else a))) :=
 lR rfl fun w ev h=>by
  simp[execOp,ho,resolve,h x _ hx,h y _ hy,invoke,builtin,go_sem];rw[Int.max_def];split<;>split<;>omega
theorem xw {P:Program}{w0:Fr}{M0:Nat→Prop}{ops:Array Oper}{Q:St→Prop}{n j k:Nat}{s s' s'' s3:St}{o p q:Oper}(hr:Region.ready .any ops L=[i,j,k])(ho:ops[i]?=some o)(hp:ops[j]?=some p)(hq:ops[k]?=some q)(hg:o.guard=none)(hg':p.guard=none)(hg'':q.guard=none)(hst:Step P w0 M0 o s s')(hst':Step P w0 M0 p s s'')(hst'':Step P w0 M0 q s s3)
  (h:nG P w0 M0 ops Q n (L.setIfInBounds i true) s')(h':nG P w0 M0 ops Q n (L.setIfInBounds j true) s'')(h'':nG P w0 M0 ops Q n (L.setIfInBounds k true) s3):nG P w0 M0 ops Q (n+1) L s :=
 .inr ⟨by rw[hr];exact fun h=>(by cases h),fun i' hi=>by
  rw[hr] at hi;rcases aa3.1 hi with rfl|hi
  ·exact⟨o,ho,hg,s',hst,h⟩
  ·rcases aa3.1 hi with rfl|hi
   ·exact⟨p,hp,hg',s'',hst',h'⟩
   ·rw[aaY] at hi;subst hi;exact⟨q,hq,hg'',s3,hst'',h''⟩⟩
section
variable {P:Program} {w0:Fr}{M0:Nat→Prop}
theorem DX {o:Oper}{ρ:Operand→Option SV}{ob:List (Nat×Ob)}{x:Operand}{id off:Nat}{e:TypeId}{cs:List SV}(ho:o.op=.nilCheck x)(hx:ρ x=some (.pbox id off))(hl:ob.lookup id=some (.box e cs)):Pure P w0 M0 o ρ ob (.pbox id off) :=
 aJ fun E w ev hw h=>by
  have hr:=h x _ hx e cs hl;refine⟨_,w,by simp only[execOp,ho,hr,Sem.run_pure],.refl _ _,fun e' cs' h'=>rfl⟩
def aaC (t k:Nat)(r:SV)(o':List (Nat×Ob)):Exit→St→Prop
 | .normal,s|.ret,s=>(s.s.lookup t).bind (r7 s.o k)=some r∧∀id ob,o'.lookup id=some ob→s.o.lookup id=some ob
 | _,_=>False
def B2 (P : Program) (f : FuncId) (n t : Nat) (T : TypeId) (k u : Nat) (c : Code) : Prop := ∃ fn, P.funcs[f]? = some fn ∧ fn.body = some c ∧ fn.ntmps = n ∧ fn.results = #[.cell t T, .tmp u] ∧ (fn.name == "runtime.NumGoroutine") = false ∧ bo P T = some true ∧ bX P T = some k
theorem B2.bu {n t k u:Nat}{T:TypeId}{c:Code}(h:B2 P f n t T k u c):cq P f:=by obtain⟨fn,h1,h2,_,_,h5,_⟩:=h;exact⟨fn,h1,h5,by rw[h2];rfl⟩
def R3 (t k u:Nat)(r r':AV):Exit→St→Prop
 | .normal,s|.ret,s=>(∃q,((s.s.lookup t).bind (r7 s.o k)).bind (bT s.o)=some q∧q.data=r)∧(∃q,(s.s.lookup u).bind (bT s.o)=some q∧q.data=r')
 | _,_=>False
theorem bB {t k u:Nat}{r r':AV}{s:St}{q q':RV}(h:((s.s.lookup t).bind (r7 s.o k)).bind (bT s.o)=some q)(h':(s.s.lookup u).bind (bT s.o)=some q')(e:q.data=r∧q'.data=r'):R3 t k u r r' .ret s:=⟨⟨q,h,e.1⟩,⟨q',h',e.2⟩⟩
end
section
variable {P:Program} {w0:Fr}{M0:Nat→Prop}
def R4 (P : Program) (f : FuncId) (n t u v : Nat) (c : Code) : Prop := ∃ fn, P.funcs[f]? = some fn ∧ fn.body = some c ∧ fn.ntmps = n ∧ fn.results = #[.tmp t, .tmp u, .tmp v] ∧ (fn.name == "runtime.NumGoroutine") = false
theorem R4.bu {n t u v:Nat}{c:Code}(h:R4 P f n t u v c):cq P f:=by obtain⟨fn,h1,h2,_,_,h5⟩:=h;exact⟨fn,h1,h5,by rw[h2];rfl⟩
def Mj (t u v:Nat)(r r' r'':AV):Exit→St→Prop
 | .normal,s|.ret,s=>(∃q,(s.s.lookup t).bind (bT s.o)=some q∧q.data=r)∧(∃q,(s.s.lookup u).bind (bT s.o)=some q∧q.data=r')∧(∃q,(s.s.lookup v).bind (bT s.o)=some q∧q.data=r'')
 | _,_=>False
theorem gz {t u v:Nat}{r r' r'':AV}{s:St}{q q' q'':RV}(h:(s.s.lookup t).bind (bT s.o)=some q)(h':(s.s.lookup u).bind (bT s.o)=some q')(h'':(s.s.lookup v).bind (bT s.o)=some q'')(e:q.data=r∧q'.data=r'∧q''.data=r''):Mj t u v r r' r'' .ret s:=⟨⟨q,h,e.1⟩,⟨q',h',e.2.1⟩,⟨q'',h'',e.2.2⟩⟩
end
section
variable {P:Program} {w0:Fr}{M0:Nat→Prop}
end
structure Dm where
 sz:Option Nat
 ag:Option Bool
 ze:Option (List Value)
 pl:Option (List (Nat×Nat))
 fd:List (Option (Nat×Nat×Bool))
 se:Option Nat
 bt:Option Nat
def Vq (P:Program)(k:TypeId):Option Nat:=match P.underlying k with
 | some (.slice e)=>some e
 | _=>none
def Vr (P:Program)(k:TypeId):Option Nat:=match P.info? k with
 | some i=>bif iE P k i.size i.bytes then some i.bytes else none
 | none=>none
def Mk (P:Program)(k:TypeId):Dm:=⟨bX P k,bo P k,zeroOf P k,placesOf P k,(List.range 8).map (iT P k),Vq P k,Vr P k⟩
def dK (T:List (Nat×Dm))(k:TypeId):Dm:=match T.lookup k with
 | some r=>r
 | none=>⟨none,none,none,none,[],none,none⟩
def fa (P:Program)(T:List (Nat×Dm)):Prop:=(T.map fun p=>(p.1,Mk P p.1))=T∧P.follows .mixedOrders=true
theorem Aq {α:Type}{k:Nat}{r:α}:∀{l:List (Nat×α)},l.lookup k=some r→(k,r)∈l
 | [],h=>by cases h
 | (u, e) :: l, h => by
   rw[aq] at h;split at h
   · rename_i hu;subst hu;cases h;exact aaJ ..
   · exact aaW _ (Aq h)
theorem oB {P:Program}{T:List (Nat×Dm)}(h:fa P T)(k:TypeId):dK T k=⟨none,none,none,none,[],none,none⟩∨dK T k=Mk P k:=by
 unfold dK;cases hl:T.lookup k with
 | none=>exact .inl rfl
 | some r =>
   right
   have hm:=Aq hl;rw[←h.1] at hm;obtain⟨p,_,hp⟩:=aa7.1 hm;cases hp;rfl
section YA
variable {P:Program} {T:List (Nat×Dm)}(h:fa P T){k:TypeId}
include h
theorem lv {n:Nat}(e:(dK T k).sz=some n):bX P k=some n:=by
 rcases oB h k with q|q<;>rw[q] at e
 ·cases e
 ·exact e
theorem uo {b:Bool}(e:(dK T k).ag=some b):bo P k=some b:=by
 rcases oB h k with q|q<;>rw[q] at e
 ·cases e
 ·exact e
theorem Ml {l:List Value}(e:(dK T k).ze=some l):zeroOf P k=some l:=by
 rcases oB h k with q|q<;>rw[q] at e
 ·cases e
 ·exact e
theorem Ts {l:List (Nat×Nat)}(e:(dK T k).pl=some l):placesOf P k=some l:=by
 rcases oB h k with q|q<;>rw[q] at e
 ·cases e
 ·exact e
theorem Gw {x:Nat×Nat×Bool}(e:(dK T k).fd[f]?=some (some x)):iT P k f=some x:=by
 rcases oB h k with q|q<;>rw[q] at e
 ·simp at e
 ·simp only[Mk,aaI] at e;rcases aa9 f 8 with h8|h8
  ·rw[abX h8] at e;simpa using e
  ·rw[abg (by simpa using h8)] at e;cases e
theorem kq {e:Nat}(q:(dK T k).se=some e):P.underlying k=some (.slice e):=by
 rcases oB h k with r|r<;>rw[r] at q
 ·cases q
 ·simp only[Mk,Vq] at q;split at q
  ·cases q;assumption
  ·cases q
theorem xx {n b:Nat}(e:(dK T k).sz=some n)(q:(dK T k).bt=some b):iE P k n b=true:=by
 rcases oB h k with r|r<;>rw[r] at e q
 · cases q
 · simp only [Mk, bX, Vr] at e q
   cases hi:P.info? k with
   | none=>rw[hi] at q;cases q
   | some i =>
     rw[hi] at e q;simp only[abu,aaB] at e;subst e;simp only at q;cases hb:iE P k i.size i.bytes<;>rw[hb] at q<;>cases q;exact hb
end YA
/- Values forced, so that a run ends in plain lists. -/
section force
variable {R:Type}
def fV (v:SV)(k:SV→Option R):Option R:=match v with
 | .v c d => match c with
   | .pl=>k (.v .pl d)
   | .mx=>k (.v .mx d)
   | .vw=>k (.v .vw d)
 | .own i=>k (.own i)
 | .pel a b c=>k (.pel a b c)
 | .pbox a b=>k (.pbox a b)
 | .omap a=>k (.omap a)
 | .vsl a b c=>k (.vsl a b c)
 | .fn f l=>k (.fn f l)
 | .hid f l=>k (.hid f l)
 | .nst a=>k (.nst a)
 | .nel a b=>k (.nel a b)
 | .dead=>k .dead
theorem s6 (v:SV)(k:SV→Option R):fV v k=k v:=by
 cases v with
 | v c d=>cases c<;>rfl
 | _=>rfl
def Vs:List SV→(List SV→Option R)→Option R
 | [],k=>k []
 | v :: r,k=>fV v fun v=>Vs r fun r=>k (v :: r)
theorem Gx:∀ (l:List SV)(k:List SV→Option R),Vs l k=k l
 | [],k=>rfl
 | v :: r,k=>by unfold Vs;rw[s6,Gx r]
def fS:List (Nat×SV)→(List (Nat×SV)→Option R)→Option R
 | [],k=>k []
 | (t,v) :: r,k=>fV v fun v=>fS r fun r=>k ((t,v) :: r)
theorem Mm:∀ (l:List (Nat×SV))(k:List (Nat×SV)→Option R),fS l k=k l
 | [],k=>rfl
 | (t,v) :: r,k=>by unfold fS;rw[s6,Mm r]
def fN (ln:Option (Nat×eh))(k:Option (Nat×eh)→Option R):Option R:=match ln with
 | none=>k none
 | some (j,.no)=>k (some (j,.no))
 | some (j,.arr u)=>k (some (j,.arr u))
 | some (j,.map u)=>k (some (j,.map u))
theorem Ig (ln:Option (Nat×eh))(k:Option (Nat×eh)→Option R):fN ln k=k ln:=by
 cases ln with
 | none=>rfl
 | some p=>obtain⟨j,l⟩:=p;cases l<;>rfl
def fO:List (Nat×Ob)→(List (Nat×Ob)→Option R)→Option R
 | [],k=>k []
 | (t, ob) :: r, k => match ob with
   | .box e cs=>Vs cs fun cs=>fO r fun r=>k ((t,.box e cs) :: r)
   | .arr e xs=>fO r fun r=>k ((t,.arr e xs) :: r)
   | .mp ks vs=>fO r fun r=>k ((t,.mp ks vs) :: r)
   | .nar e cs ln=>fN ln fun ln=>fO r fun r=>k ((t,.nar e cs ln) :: r)
   | .nmp ks cs ln=>fN ln fun ln=>fO r fun r=>k ((t,.nmp ks cs ln) :: r)
theorem xy:∀ (l:List (Nat×Ob))(k:List (Nat×Ob)→Option R),fO l k=k l
 | [],k=>rfl
 | (t, ob) :: r, k => by
   unfold fO;cases ob with
   | box e cs=>simp only[Gx];rw[xy r]
   | arr e xs=>simp only[];rw[xy r]
   | mp ks vs=>simp only[];rw[xy r]
   | nar e cs ln=>simp only[Ig];rw[xy r]
   | nmp ks cs ln=>simp only[Ig];rw[xy r]
def B3 (t:Nat)(d:SV):List (Nat×SV)→(List (Nat×SV)→Option R)→Option R
 | [],k=>k [(t,d)]
 | (u,e) :: r,k=>bif Nat.blt t u then k ((t,d) :: (u,e) :: r) else bif Nat.beq t u then k ((t,d) :: r) else B3 t d r fun r=>k ((u,e) :: r)
theorem oG (t:Nat)(d:SV):∀(l:List (Nat×SV))(k:List (Nat×SV)→Option R),B3 t d l k=k (ins t d l)
 | [],k=>rfl
 | (u, e) :: r, k => by
   unfold B3 ins;by_cases h:t<u
   · have : Nat.blt t u = true := by simpa using h
     rw[this,if_pos h];rfl
   · have h1 : Nat.blt t u = false := by
       cases hq:Nat.blt t u
       · rfl
       · exact absurd (by simpa using hq) h
     rw[h1,if_neg h];by_cases h2:t=u
     · subst h2;rw[if_pos rfl,show Nat.beq t t=true by simp];rfl
     · rw [if_neg h2, show Nat.beq t u = false by
         cases hq:Nat.beq t u
         · rfl
         · exact absurd (aby hq) h2]
       simp only[cond_false];rw[oG t d r]
def fB (ob:Ob)(k:Ob→Option R):Option R:=match ob with
 | .box e cs=>Vs cs fun cs=>k (.box e cs)
 | .arr e xs=>k (.arr e xs)
 | .mp ks vs=>k (.mp ks vs)
 | .nar e cs ln=>fN ln fun ln=>k (.nar e cs ln)
 | .nmp ks cs ln=>fN ln fun ln=>k (.nmp ks cs ln)
theorem Ih (ob:Ob)(k:Ob→Option R):fB ob k=k ob:=by
 cases ob with
 | box e cs=>exact Gx _ _
 | nar e cs ln=>exact Ig ln fun ln=>k (.nar e cs ln)
 | nmp ks cs ln=>exact Ig ln fun ln=>k (.nmp ks cs ln)
 | _=>rfl
def pk {α:Type}(f:α→(α→Option R)→Option R):List Nat→List (Nat×α)→(List (Nat×α)→Option R)→Option R
 | [],_,k=>k []
 | t :: ts, l, k => match l.lookup t with
   | some d=>f d fun d=>pk f ts l fun r=>k ((t,d) :: r)
   | none=>none
theorem iY {α:Type}{f:α→(α→Option R)→Option R}(hf:∀d k,f d k=k d):∀(ts:List Nat)(l:List (Nat×α))(k:List (Nat×α)→Option R)(r:R),pk f ts l k=some r→∃l',k l'=some r∧∀x∈l',l.lookup x.1=some x.2
 | [],_,k,r,h=>⟨[],h,fun x hx=>by cases hx⟩
 | t :: ts, l, k, r, h => by
   unfold pk at h;cases hl:l.lookup t with
   | none=>rw[hl] at h;cases h
   | some d =>
     rw[hl] at h;simp only[hf] at h;obtain⟨l',h1,h2⟩:=iY hf ts l _ r h;exact⟨_,h1,fun x hx=>by
       rcases aa3.1 hx with rfl|hx
       · exact hl
       · exact h2 x hx⟩
end force
theorem kr {s:St}:∀{l:List (Nat×SV)},(∀x∈l,s.s.lookup x.1=some x.2)→Has s l
 | [],_=>trivial
 | (t,d) :: r,h=>⟨h (t,d) (aaJ ..),kr fun x hx=>h x (aaW _ hx)⟩
theorem kV {s:St}:∀{l:List (Nat×Ob)},(∀x∈l,s.o.lookup x.1=some x.2)→wc s l
 | [],_=>trivial
 | (t,d) :: r,h=>⟨h (t,d) (aaJ ..),kV fun x hx=>h x (aaW _ hx)⟩
/- One operation. -/
def i64 (ρ:Operand→Option SV)(x:Operand):Option Int:=match bg ρ x with
 | some (.int .i64 a)=>some a
 | _=>none
def bl (b:Bool):Option SV:=some (.v .pl (.sc (.bool b)))
def Vt (op:BinOp)(a b:Int):Option SV:=match op with
 | .lss=>bl (decide (a<b))
 | .leq=>bl (decide (a≤b))
 | .gtr=>bl (decide (b<a))
 | .geq=>bl (decide (b≤a))
 | .eql=>bl (decide (a=b))
 | .neq=>bl (!decide (a=b))
 | _=>none
def DY (T : List (Nat × Dm)) (o : Oper) (ρ : Operand → Option SV) (ob : List (Nat × Ob)) : Option SV := match o.op with
 | .move x=>ρ x
 | .assign x=>ρ x
 | .pick c x y => match bg ρ c with
   | some (.bool true)=>ρ x
   | some (.bool false)=>ρ y
   | _=>none
 | .binOp op t x y t' => match i64 ρ x, i64 ρ y with
   | some a,some b=>Vt op a b
   | _,_=>none
 | .unOp .not t x => match bg ρ x with
   | some (.bool q)=>bl (!q)
   | _=>none
 | .load t x => match ρ x with
   | some (.v c (.pc cs off)) => match (dK T t).ag with
     | some false => match cs[off]? with
       | some el=>some (.v c el)
       | none=>none
     | some true => match (dK T t).sz with
       | some k=>bif Nat.ble (off+k) cs.length then some (.v c (.agg ((cs.drop off).take k))) else none
       | none=>none
     | none=>none
   | some (.pbox id off) => match ob.lookup id with
     | some (.box e cs) => match (dK T t).ag with
       | some false=>cs[off]?
       | some true => match (dK T t).sz with
         | some k => bif Nat.ble (off + k) cs.length then match jE ob ((cs.drop off).take k) with
           | some (c,az)=>some (.v c (.agg az))
           | none=>none else none
         | none=>none
       | none=>none
     | _=>none
   | _=>none
 | .fieldAddr t x f => match (dK T t).fd[f]? with
   | some (some (fo, fk + 1, fg)) => match ρ x with
     | some (.v c (.pc cs off))=>some (.v c (.pc cs (off+fo)))
     | some (.pbox id off) => match ob.lookup id with
       | some (.box e cs)=>some (.pbox id (off+fo))
       | _=>none
     | _=>none
   | _=>none
 | .nilCheck x => match ρ x with
   | some (.pbox id off) => match ob.lookup id with
     | some (.box e cs)=>some (.pbox id off)
     | _=>none
   | _=>none
 | .build t parts => match (dK T t).pl with
   | some pl => match (dK T t).ze with
     | some zs => bif zs.all Value.oneCell' then match lS ρ ob parts.toList with
       | some (c, ps) => match Ah pl (zs.map .sc) ps with
         | some r=>some (.v c (.agg r))
         | none=>none
       | none=>none else none
     | none=>none
   | none=>none
 | .extract x i => match ρ x with
   | some (.v c (.tup vs)) => match vs[i]? with
     | some el=>some (.v c el)
     | none=>none
   | _=>none
 | .field t x f => match (dK T t).fd[f]? with
   | some (some (fo, fk + 1, false)) => match viewAt ρ ob x with
     | some (c, .agg az) => match az[fo]? with
       | some a=>some (.v c a)
       | none=>none
     | _=>none
   | _=>none
 | _=>none
def R5:fX→Bool
 | .vw=>false
 | _=>true
def Mn (T : List (Nat × Dm)) (o : Oper) (s : St) : Option St := match o.op with
 | .alloc t => match o.dst with
   | some d => match (dK T t).ze with
     | some zs=>bif Nat.blt d s.n&&(Nat.blt d 1000000&&(Nodup s.s&&zs.all Value.oneCell')) then some ((s.cK true d (.box t (zs.map fun z=>.v .pl (.sc z)))).put d (.pbox d 0)) else none
     | none=>none
   | none=>none
 | .store t x y => match o.dst with
   | some _=>none
   | none => match s.ev x with
     | some (.pbox id off) => match s.o.lookup id with
       | some (.box e cs) => match (dK T t).sz with
         | some k => match s.ev y with
           | some (.v c a)=>bif R5 c&&(Nodup s.s&&(jt a&&(Nat.beq (c8 (.v c a)).length k&&Nat.ble (off+k) cs.length))) then some (s.cK false id (.box e (ry (de id cs) off (c8 (.v c a))))) else none
           | some (.own j) => match s.o.lookup j with
             | some (.arr e' xs)=>bif Nodup s.s&&(Nat.beq k 1&&Nat.ble (off+1) cs.length) then some (s.cK false id (.box e (ry (de id cs) off [.own j]))) else none
             | _=>none
           | _=>none
         | none=>none
       | _=>none
     | _=>none
 | _=>none
def YB {R:Type}(T:List (Nat×Dm))(o:Oper)(s:St)(k:St→Option R):Option R:=match s with
 | ⟨m, l, ob⟩ => match DY T o (St.ev ⟨m, l, ob⟩) ob with
   | some d => match o.dst with
     | some t=>bif Nat.blt t m then fV d fun d=>B3 t d l fun l=>k ⟨m,l,ob⟩ else none
     | none=>none
   | none => match Mn T o ⟨m, l, ob⟩ with
     | some s'=>fS s'.s fun l=>fO s'.o fun ob=>k ⟨m,l,ob⟩
     | none=>none
section
variable {P:Program} {w0:Fr}{M0:Nat→Prop}{T:List (Nat×Dm)}{o:Oper}{ρ:Operand→Option SV}{ob:List (Nat×Ob)}{d:SV}
theorem Mo {x:Operand}{a:Int}(h:i64 ρ x=some a):bg ρ x=some (.int .i64 a):=by
 unfold i64 at h;split at h
 ·rename_i b hb;cases h;exact hb
 ·cases h
theorem xz (hT:fa P T) (h:DY T o ρ ob=some d):Pure P w0 M0 o ρ ob d:=by
 unfold DY at h;split at h
 · exact cO ‹_› h
 · exact kQ ‹_› h
 · split at h
   · exact Aa (z:=true) ‹_› ‹_› h
   · exact Aa (z:=false) ‹_› ‹_› h
   · cases h
 · split at h
   · rename_i a b ha hb
     have ha:=Mo ha;have hb:=Mo hb;unfold Vt bl at h;split at h<;>cases h
     · exact LI ‹_› ha hb
     · exact LJ ‹_› ha hb
     · exact LK ‹_› ha hb
     · exact LM ‹_› ha hb
     · exact jN ‹_› ha hb
     · exact dD ‹_› ha hb
   · cases h
 · split at h
   · cases h;exact kU ‹_› ‹_›
   · cases h
 · split at h
   · split at h
     · split at h
       · cases h;exact Ab ‹_› (uo hT ‹_›) ‹_› ‹_›
       · cases h
     · split at h
       · rename_i k hk
         cases hb:Nat.ble (_+k) _<;>rw[hb] at h<;>simp only[cond_true,cond_false] at h<;>cases h;exact aF ‹_› (uo hT ‹_›) (lv hT hk) ‹_› (aaz hb)
       · cases h
     · cases h
   · split at h
     · split at h
       · exact aa ‹_› (uo hT ‹_›) ‹_› ‹_› h
       · split at h
         · rename_i k hk
           cases hb:Nat.ble (_+k) _<;>rw[hb] at h<;>simp only[cond_true,cond_false] at h
           · cases h
           · split at h
             · cases h;exact sU ‹_› (uo hT ‹_›) (lv hT hk) ‹_› ‹_› hb ‹_›
             · cases h
         · cases h
       · cases h
     · cases h
   · cases h
 · split at h
   · split at h
     · cases h;exact Gh ‹_› (Gw hT ‹_›) ‹_›
     · split at h
       · cases h;exact jQ ‹_› (Gw hT ‹_›) ‹_› ‹_›
       · cases h
     · cases h
   · cases h
 · split at h
   · split at h
     · cases h;exact DX ‹_› ‹_› ‹_›
     · cases h
   · cases h
 · split at h
   · split at h
     · rename_i zs hz
       cases hb:zs.all Value.oneCell'<;>rw[hb] at h<;>simp only[cond_true,cond_false] at h
       · cases h
       · split at h
         · split at h
           · cases h;exact aK ‹_› (Ts hT ‹_›) (Ml hT hz) hb ‹_› ‹_›
           · cases h
         · cases h
     · cases h
   · cases h
 · split at h
   · split at h
     · cases h;exact BO ‹_› ‹_› ‹_›
     · cases h
   · cases h
 · split at h
   · split at h
     · split at h
       · cases h;exact DJ ‹_› (Gw hT ‹_›) ‹_› ‹_›
       · cases h
     · cases h
   · cases h
 · cases h
theorem Mp {s s':St} (hT:fa P T) (ae:∀ b,M0 b→b<w0.w.heap.size) (h:Mn T o s=some s'):Step P w0 M0 o s s'∧s'.n=s.n:=by
 unfold Mn at h;split at h
 · split at h
   · split at h
     · rename_i t _ d hd _ zs hz
       cases hb:Nat.blt d s.n&&(Nat.blt d 1000000&&(Nodup s.s&&zs.all Value.oneCell'))<;>rw[hb] at h<;>simp only[cond_true,cond_false] at h<;>cases h;simp only[aaZ] at hb;obtain⟨b1,b2,b3,b4⟩:=hb;exact⟨cR ‹_› hd b1 b2 b3 (Ml hT hz) b4 ae,rfl⟩
     · cases h
   · cases h
 · split at h
   · cases h
   · split at h
     · split at h
       · split at h
         · rename_i k hk
           split at h
           · rename_i c a hy
             cases hb:R5 c&&(Nodup s.s&&(jt a&&(Nat.beq (c8 (.v c a)).length k&&Nat.ble (_+k) _)))<;>rw[hb] at h<;>simp only[cond_true,cond_false] at h<;>cases h;simp only[aaZ] at hb;obtain⟨b0,b1,b2,b3,b4⟩:=hb;exact⟨aW ‹_› ‹_› b1 (lv hT hk) ‹_› ‹_› hy b2 (by rintro rfl;cases b0) (aby b3) b4 ae,rfl⟩
           · split at h
             · cases hb : Nodup s.s && (Nat.beq k 1 && Nat.ble (_ + 1) _) <;> rw [hb] at h <;> simp only [cond_true, cond_false] at h <;> cases h
               simp only[aaZ] at hb;obtain⟨b1,b2,b3⟩:=hb;have:=aby b2;subst this;exact⟨aP ‹_› ‹_› b1 (lv hT hk) ‹_› ‹_› ‹_› ‹_› b3 ae,rfl⟩
             · cases h
           · cases h
         · cases h
       · cases h
     · cases h
 · cases h
theorem Tt {R:Type}{s:St}{k:St→Option R}{r:R}(hT:fa P T)(ae:∀b,M0 b→b<w0.w.heap.size)(h:YB T o s k=some r):∃s',Step P w0 M0 o s s'∧k s'=some r:=by
 unfold YB at h;obtain⟨m,l,ob⟩:=s;simp only at h;split at h
 · rename_i d hd
   split at h
   · rename_i t ht
     cases hb:Nat.blt t m<;>rw[hb] at h<;>simp only[cond_true,cond_false] at h
     · cases h
     · rw [s6, oG] at h
       exact⟨_,lQ ht (by simpa using hb) (xz hT hd),h⟩
   · cases h
 · split at h
   · rename_i s' hs
     rw[Mm,xy] at h;obtain⟨h1,h2⟩:=Mp (P:=P) (w0:=w0) (M0:=M0) hT ae hs;obtain⟨m',l',o'⟩:=s';simp only at h2;subst h2;exact⟨_,h1,h⟩
   · cases h
/- Control. -/
inductive Fm where
 | seq (y:Code)
 | blk (id:Nat)
 | scope
 | loop (I:Nat→St→Prop)(m:Nat)
 | cut (R:St→Prop)
inductive Cf where
 | code (c:Code)
 | ops (a:Array Oper)(r:List Oper)
 | drw (a:Array Oper)(r:List Oper)(i:Nat)
 | done (e:Exit)
def toQ (P:Program)(w0:Fr)(M0:Nat→Prop)(Q:Exit→St→Prop):List Fm→Exit→St→Prop
 | []=>Q
 | .seq y :: k=>PZ P w0 M0 y (toQ P w0 M0 Q k)
 | .blk i :: k=>rT i (toQ P w0 M0 Q k)
 | .scope :: k=>L9 (toQ P w0 M0 Q k)
 | .loop I m :: k=>LV P w0 M0 I m (toQ P w0 M0 Q k)
 | .cut R :: k=>Tm P w0 M0 R (toQ P w0 M0 Q k)
@[reducible] def At (P:Program)(w0:Fr)(M0:Nat→Prop)(Q:Exit→St→Prop)(k:List Fm)(cf:Cf)(s:St):Prop:=match cf with
 | .code c=>aw P w0 M0 c s (toQ P w0 M0 Q k)
 | .ops a r=>kn P w0 M0 a (toQ P w0 M0 Q k .normal) r s
 | .drw a r i=>kg P w0 M0 a (toQ P w0 M0 Q k .normal) r i s
 | .done e=>toQ P w0 M0 Q k e s
def xr (T : List (Nat × Dm)) : Nat → Cf → List Fm → St → Option (Cf × List Fm × St)
 | 0,cf,k,s=>some (cf,k,s)
 | n + 1, .code c, k, s => match c with
   | .seq x y=>xr T n (.code x) (.seq y :: k) s
   | .block id c=>xr T n (.code c) (.blk id :: k) s
   | .scope c=>xr T n (.code c) (.scope :: k) s
   | .skip=>xr T n (.done .normal) k s
   | .label _=>xr T n (.done .normal) k s
   | .ret=>xr T n (.done .ret) k s
   | .exit id=>xr T n (.done (.exit id)) k s
   | .region _ ops dr => match dr with
     | false=>xr T n (.ops ops ops.toList) k s
     | true=>none
   | .cond x a b => match x with
     | .tmp t => match bg s.ev (.tmp t) with
       | some (.bool true)=>xr T n (.code a) k s
       | some (.bool false)=>xr T n (.code b) k s
       | _=>none
     | _=>none
   | _=>none
 | n + 1, .ops a l, k, s => match l with
   | []=>xr T n (.done .normal) k s
   | o :: r => match guardOf a s.ev o with
     | some true=>YB T o s fun s=>xr T n (.ops a r) k s
     | some false => match o.dst with
       | some t => match s with
         | ⟨m,l,ob⟩=>bif Nat.blt t m then B3 t (.v .pl (.tup [])) l fun l=>xr T n (.ops a r) k ⟨m,l,ob⟩ else none
       | none=>none
     | none=>none
 | n + 1, .drw a l i, k, s => match l with
   | []=>xr T n (.done .normal) k s
   | o :: r => match s with
     | ⟨m, sl, ob⟩ => match guardOf a (St.ev ⟨m, sl, ob⟩) o with
       | some true => match DY T o (fx a o (St.ev ⟨m, sl, ob⟩)) ob with
         | some d => match o.dst with
           | some t=>bif Nat.blt t m then fV d fun d=>B3 t d sl fun sl=>xr T n (.drw a r (i+1)) k ⟨m,sl,ob⟩ else none
           | none=>none
         | none=>none
       | some false => match o.dst with
         | some t=>bif Nat.blt t m then B3 t (.v .pl (.tup [])) sl fun sl=>xr T n (.drw a r (i+1)) k ⟨m,sl,ob⟩ else none
         | none=>none
       | none=>none
 | n + 1, .done e, k, s => match k with
   | []=>none
   | f :: k => match f with
     | .seq y => match e with
       | .normal=>xr T n (.code y) k s
       | e=>xr T n (.done e) k s
     | .blk id => match e with
       | .exit i=>bif Nat.beq i id then xr T n (.done .normal) k s else xr T n (.done (.exit i)) k s
       | e=>xr T n (.done e) k s
     | .scope => match e with
       | .goto _=>none
       | e=>xr T n (.done e) k s
     | .loop I m => match e with
       | .normal=>none
       | e=>xr T n (.done e) k s
     | .cut R => match e with
       | .normal=>none
       | e=>xr T n (.done e) k s
def R6 (T:List (Nat×Dm)) (n:Nat) (ids oids:List Nat) (cf:Cf) (k:List Fm) (s:St):Option (Cf×List Fm×St) :=
 match xr T n cf k s with
 | some (cf, k, s) => match s with
   | ⟨m, l, o⟩ => match cf with
     | .done e => match e, k with
       | .normal,.loop I m' :: k=>pk fV ids l fun l=>pk fB oids o fun o=>some (.done .normal,.loop I m' :: k,⟨m,l,o⟩)
       | .normal,.cut R :: k=>pk fV ids l fun l=>pk fB oids o fun o=>some (.done .normal,.cut R :: k,⟨m,l,o⟩)
       | e,k=>some (.done e,k,⟨m,l,o⟩)
     | .code c=>pk fV ids l fun l=>pk fB oids o fun o=>some (.code c,k,⟨m,l,o⟩)
     | .ops a r=>pk fV ids l fun l=>pk fB oids o fun o=>some (.ops a r,k,⟨m,l,o⟩)
     | .drw a r i=>pk fV ids l fun l=>some (.drw a r i,k,⟨m,l,o⟩)
 | none=>none
variable {Q:Exit→St→Prop}
theorem rB (hT:fa P T) (ae:∀ b,M0 b→b<w0.w.heap.size):∀ (n:Nat) (cf:Cf) (k:List Fm) (s:St) (r:Cf×List Fm×St),xr T n cf k s=some r→At P w0 M0 Q r.2.1 r.1 r.2.2→At P w0 M0 Q k cf s
 | 0,cf,k,s,r,h,hq=>by cases h;exact hq
 | n + 1, .code c, k, s, r, h, hq => by
   have ih:=fun cf k s h=>rB hT ae n cf k s r h hq
   unfold xr at h;cases c with
   | skip=>exact JD (ih _ _ _ h)
   | seq x y=>exact DD (ih _ _ _ h)
   | block id c=>exact Gl (ih _ _ _ h)
   | scope c=>exact Gs (ih _ _ _ h)
   | label l=>exact Gt (ih _ _ _ h)
   | ret=>exact LR (ih _ _ _ h)
   | exit i=>exact JE (ih _ _ _ h)
   | region id ops dr =>
     cases dr with
     | false=>exact LU _ rfl (ih (.ops ops ops.toList) _ _ h)
     | true=>cases h
   | cond x a b =>
     cases x with
     | tmp t =>
       simp only at h;split at h
       · exact DG ‹_› (ih _ _ _ h)
       · exact DH ‹_› (ih _ _ _ h)
       · cases h
     | _=>cases h
   | _=>cases h
 | n + 1, .ops a l, k, s, r, h, hq => by
   have ih:=fun cf k s h=>rB hT ae n cf k s r h hq
   unfold xr at h;cases l with
   | nil=>exact Th (ih _ _ _ h)
   | cons o l =>
     simp only at h;split at h
     · rename_i hg
       obtain⟨s',h1,h2⟩:=Tt (P:=P) (w0:=w0) (M0:=M0) hT ae h;exact⟨s,fm.refl _,s',.inl ⟨hg,h1⟩,ih (.ops a l) _ _ h2⟩
     · rename_i hg
       split at h
       · rename_i t ht
         obtain⟨m,sl,ob⟩:=s;simp only at h;cases hb:Nat.blt t m<;>rw[hb] at h<;>simp only[cond_true,cond_false] at h
         · cases h
         · rw [oG] at h
           exact JF hg ht hb (ih (.ops a l) _ _ h)
       · cases h
     · cases h
 | n + 1, .drw a l i, k, s, r, h, hq => by
   have ih:=fun cf k s h=>rB hT ae n cf k s r h hq
   unfold xr at h;cases l with
   | nil=>exact Ti (ih _ _ _ h)
   | cons o l =>
     obtain⟨m,sl,ob⟩:=s;simp only at h;split at h
     · rename_i hg
       split at h
       · rename_i d hd
         split at h
         · rename_i t ht
           cases hb:Nat.blt t m<;>rw[hb] at h<;>simp only[cond_true,cond_false] at h
           · cases h
           · rw [s6, oG] at h
             have hn:t<m:=by simpa using hb
             exact⟨_,Sub.refl _,.inl ⟨t,ht,hn,true,hg,d,fun _=>xz hT hd,fun h=>(by cases h),ih (.drw a l (i+1)) _ _ h⟩⟩
         · cases h
       · cases h
     · rename_i hg
       split at h
       · rename_i t ht
         cases hb:Nat.blt t m<;>rw[hb] at h<;>simp only[cond_true,cond_false] at h
         · cases h
         · rw [oG] at h
           exact JG hg ht hb (ih (.drw a l (i+1)) _ _ h)
       · cases h
     · cases h
 | n + 1, .done e, k, s, r, h, hq => by
   have ih:=fun cf k s h=>rB hT ae n cf k s r h hq
   unfold xr at h;cases k with
   | nil=>cases h
   | cons f k =>
     have hd:∀e,xr T n (.done e) k s=some r→toQ P w0 M0 Q k e s:=fun e h=>ih (.done e) k s h
     have hc:∀y,xr T n (.code y) k s=some r→aw P w0 M0 y s (toQ P w0 M0 Q k):=fun y h=>ih (.code y) k s h
     cases f with
     | seq y=>cases e<;>first|exact hc y h|exact hd _ h
     | scope=>cases e<;>first|cases h;done|exact hd _ h
     | loop I m=>cases e<;>first|cases h;done|exact hd _ h
     | cut R=>cases e<;>first|cases h;done|exact hd _ h
     | blk id =>
       cases e with
       | exit i =>
         simp only at h;cases hb:Nat.beq i id<;>rw[hb] at h<;>simp only[cond_true,cond_false] at h
         · exact BS (hd _ h) hb
         · have := aby hb
           subst this;exact DF (hd _ h)
       | _=>exact hd _ h
theorem uq (hT:fa P T)(ae:∀b,M0 b→b<w0.w.heap.size)(n:Nat)(ids oids:List Nat){cf cf':Cf}{k k':List Fm}{s s':St}(h:R6 T n ids oids cf k s=some (cf',k',s'))(hk:At P w0 M0 Q k' cf' s'):At P w0 M0 Q k cf s:=by
 unfold R6 at h;split at h
 · rename_i cf1 k1 s1 hx
   obtain⟨m,l,o⟩:=s1;refine rB hT ae n cf k s _ hx ?_;cases cf1 with
   | done e =>
     simp only at h;split at h
     · obtain ⟨l', h1, h2⟩ := iY s6 _ _ _ _ h
       obtain⟨o',h3,h4⟩:=iY Ih _ _ _ _ h1;cases h3;obtain⟨m2,s2,hi,hI⟩:=hk;exact⟨m2,s2,(sR (s:=⟨m,l,o⟩) (kr h2) (kV h4)).trans hi,hI⟩
     · obtain ⟨l', h1, h2⟩ := iY s6 _ _ _ _ h
       obtain⟨o',h3,h4⟩:=iY Ih _ _ _ _ h1;cases h3;obtain⟨s2,hi,hI⟩:=hk;exact⟨s2,(sR (s:=⟨m,l,o⟩) (kr h2) (kV h4)).trans hi,hI⟩
     · cases h;exact hk
   | code c =>
     obtain⟨l',h1,h2⟩:=iY s6 _ _ _ _ h;obtain⟨o',h3,h4⟩:=iY Ih _ _ _ _ h1;cases h3;exact aw.imp (sR (s:=⟨m,l,o⟩) (kr h2) (kV h4)) hk
   | ops a r =>
     obtain⟨l',h1,h2⟩:=iY s6 _ _ _ _ h;obtain⟨o',h3,h4⟩:=iY Ih _ _ _ _ h1;cases h3;exact kn.imp (sR (s:=⟨m,l,o⟩) (kr h2) (kV h4)) hk
   | drw a r i =>
     obtain⟨l',h1,h2⟩:=iY s6 _ _ _ _ h;cases h1;exact P0 m l' o J J (kr h2) hk
 · cases h
section forms
variable {cf':Cf} {k k':List Fm}{s:St}{n':Nat}{l':List (Nat×SV)}{o':List (Nat×Ob)}(hT:fa P T)(ae:∀b,M0 b→b<w0.w.heap.size)(n:Nat)(ids oids:List Nat)
include hT ae
end forms
theorem nx {I:Nat→St→Prop}{k:List Fm}{s:St}(h:∃m',I m' s∧m'<m):At P w0 M0 Q (.loop I m :: k) (.done .normal) s:=by obtain⟨m',hI,hm⟩:=h;exact⟨m',s,fm.refl _,hI,hm⟩
theorem cx {R:St→Prop}{k:List Fm}{s:St}(h:R s):At P w0 M0 Q (.cut R :: k) (.done .normal) s:=⟨s,fm.refl _,h⟩
theorem lp {c:Code}{k:List Fm}{s:St}(I:Nat→St→Prop)(h0:∃m,I m s)(hr:∀m s,I m s→At P w0 M0 Q (.loop I m :: k) (.code c) s):At P w0 M0 Q k (.code (.loop c)) s:=by obtain⟨m,h0⟩:=h0;exact Gn I ⟨m,s,fm.refl _,h0⟩ hr
theorem ct {x y:Code}{k:List Fm}{s:St}(R:St→Prop)(h:At P w0 M0 Q (.cut R :: k) (.code x) s)(h':∀s,R s→At P w0 M0 Q k (.code y) s):At P w0 M0 Q k (.code (.seq x y)) s:=L3 R h h'
def DZ (a:Array Oper)(o:Oper)(s:St):Option Nat:=match guardOf a s.ev o with
 | some true => match o.dst with
   | some t=>bif Nat.blt t s.n then some t else none
   | none=>none
 | _=>none
theorem oP {a:Array Oper}{r:List Oper}{k:List Fm}{n:Nat}{l:List (Nat×SV)}{t:Nat}(hd:DZ a o ⟨n,l,ob⟩=some t)(h:Pure P w0 M0 o (St.ev ⟨n,l,ob⟩) ob d)(hr:At P w0 M0 Q k (.ops a r) ⟨n,ins t d l,ob⟩):At P w0 M0 Q k (.ops a (o :: r)) ⟨n,l,ob⟩:=by
 unfold DZ at hd;split at hd
 ·rename_i hg;split at hd
  ·rename_i u hu;cases hb:Nat.blt u n<;>rw[hb] at hd<;>simp only[cond_true,cond_false] at hd<;>cases hd;exact⟨_,fm.refl _,_,.inl ⟨hg,lQ hu (by simpa using hb) h⟩,hr⟩
  ·cases hd
 ·cases hd
theorem oS {a:Array Oper}{r:List Oper}{k:List Fm}{n:Nat}{l:List (Nat×SV)}{s':St}(hg:guardOf a (St.ev ⟨n,l,ob⟩) o=some true)(h:Step P w0 M0 o ⟨n,l,ob⟩ s')(hn:s'.n=n)(hr:At P w0 M0 Q k (.ops a r) ⟨n,s'.s,s'.o⟩):At P w0 M0 Q k (.ops a (o :: r)) ⟨n,l,ob⟩:=by subst hn;exact⟨_,fm.refl _,_,.inl ⟨hg,h⟩,hr⟩
class Ix (n:Int)(k:outParam Nat):Prop where
 h:n.toNat=k
instance (i:Nat):Ix (i:Int) i:=⟨acb i⟩
instance (i:Nat):Ix (Int.ofNat i) i:=⟨rfl⟩
instance:Ix 0 0:=⟨rfl⟩
instance:Ix 1 1:=⟨rfl⟩
instance:Ix 2 2:=⟨rfl⟩
instance (priority:=low) (n:Int):Ix n n.toNat:=⟨rfl⟩
theorem dh  [Inhabited α]{f:α→AV}{l:List α}{ob:List (Nat×Ob)}{x y:Operand}{T e:TypeId}{c:fX}{k:Nat}{q:IntKind}{n:Int}(ho:o.op=.indexAddr T x y)(hT:P.underlying T=some (.slice e))(hk:bX P e=some k)
  (hx:viewAt ρ ob x=some (c,.sl (l.map f)))(hy:bg ρ y=some (.int q n)) [hi:Ix n i](h:0≤n∧n<l.length)(hc:∀z,(AV.cells (f z)).length=k) :
  Pure P w0 M0 o ρ ob (.v c (.pc (AV.cells (f (l.getD i default))) 0)):=by
 have:=pz (P:=P) (w0:=w0) (M0:=M0) ho hT hk hx hy h hc;rwa [hi.h] at this
theorem s7 {s:St}{t:Nat}{z:Bool}(h:bg s.ev (.tmp t)=some (.bool z)):fm P w0 M0 s (s.put t (.v .pl (.sc (.bool z)))):=by
 rintro a w ⟨E,hs⟩;have hv:a.eval (.tmp t)=.bool z:=bZ (ρ:=s.ev) (x:=.tmp t) (ob:=s.o) (ev:=a.eval) (fun x e hx=>hs.ev hx) h;refine⟨E,hs.size,hs.defers,fun u d hd=>?_,hs.wok⟩;simp only[St.put] at hd ⊢;rw[aC] at hd;split at hd
 · rename_i hu
   subst hu;cases hd;unfold bg at h;cases hl:s.s.lookup u with
   | none=>simp[St.ev,hl] at h
   | some e =>
     refine⟨(hs.slots u e hl).1,?_⟩;have:a.tmps.getD u undef=.bool z:=hv;rw[this];exact .sc _ rfl
 · exact hs.slots u d hd
section split
variable {k:List Fm}{n:Nat}{l:List (Nat×SV)}(t:Nat){b:Bool}
theorem wD {c:Code}(hb:bg (St.ev ⟨n,l,ob⟩) (.tmp t)=some (.bool b))(h1:b=true→At P w0 M0 Q k (.code c) ⟨n,ins t (.v .pl (.sc (.bool true))) l,ob⟩)(h0:b=false→At P w0 M0 Q k (.code c) ⟨n,ins t (.v .pl (.sc (.bool false))) l,ob⟩):At P w0 M0 Q k (.code c) ⟨n,l,ob⟩:=by
 cases b
 ·exact aw.imp (s7 hb) (h0 rfl)
 ·exact aw.imp (s7 hb) (h1 rfl)
theorem spO {a:Array Oper}{r:List Oper}(hb:bg (St.ev ⟨n,l,ob⟩) (.tmp t)=some (.bool b))(h1:b=true→At P w0 M0 Q k (.ops a r) ⟨n,ins t (.v .pl (.sc (.bool true))) l,ob⟩)(h0:b=false→At P w0 M0 Q k (.ops a r) ⟨n,ins t (.v .pl (.sc (.bool false))) l,ob⟩):At P w0 M0 Q k (.ops a r) ⟨n,l,ob⟩:=by
 cases b
 ·exact kn.imp (s7 hb) (h0 rfl)
 ·exact kn.imp (s7 hb) (h1 rfl)
end split
end
open Go.RowKit
section
variable {P:Program} {w0:Fr}{M0:Nat→Prop}{o:Oper}{ρ:Operand→Option SV}{ob:List (Nat×Ob)}{x y z:Operand}{T e:TypeId}{k id off:Nat}{c:fX}{cs:List SV}
theorem fq {f:α→AV}{l:List α}{q':IntKind}{j:Int}(ho:o.op=.slice T x none (some z) none)(hT:P.underlying T=some (.slice e))(hk:bX P e=some k)(hx:viewAt ρ ob x=some (c,.sl (l.map f)))(hz:bg ρ z=some (.int q' j))
  (h:0≤j∧j≤l.length)(hxk:∀z,(AV.cells (f z)).length=k):Pure P w0 M0 o ρ ob (.v c (.sl ((l.take j.toNat).map f))):=by
 have:=sW (P:=P) (w0:=w0) (M0:=M0) ho hT hk hx hz (by simpa using h) (mQ hxk);rwa [←List.map_take] at this
theorem pJ {q:IntKind}{i:Int}{n:Nat}{e':TypeId}(ho:o.op=.indexAddr T x y)(hT:P.underlying T=some (.array n e))(hk:bX P e=some 1)(hx:ρ x=some (.pbox id off))(hl:ob.lookup id=some (.box e' cs))(hy:bg ρ y=some (.int q i))(h:0≤i∧i<n) :
  Pure P w0 M0 o ρ ob (.pbox id (off+i.toNat)) :=
 aJ fun E w ev hw hh=>by
  have hr:=hh x _ hx e' cs hl;have hi:=bZ hh hy;have hel:P.elem T=e:=by simp[Program.elem,hT]
  have hal:P.arrayLen T=n:=by simp[Program.arrayLen,hT]
  have hin:0≤i∧i<(n:Int):=h;refine⟨_,w,by simp[execOp,ho,hr,hi,run_indexAt_array,hel,hal,hT,hin,dE hk,Addr.add_lit];rfl,.refl _ _,fun e2 cs2 h'=>?_⟩;rfl
theorem D0 {s:St}(t:Nat)(e:TypeId)(ae:∀b,M0 b→b<w0.w.heap.size)(hnd:Nodup s.s=true)(ht:s.s.lookup t=some (.v .pl (.sc (.slice none 0 0)))):fm P w0 M0 s ((s.cK true t (.arr e [])).put t (.own t)):=by
 rintro a w ⟨E,hs⟩;have hsl:=hs.slots t _ ht;have hv:a.tmps.getD t undef=.slice none 0 0:=by
  have h5:bL w _ (a.tmps.getD t undef) (.sc (.slice none 0 0)):=hsl.2;generalize a.tmps.getD t undef=u at h5 ⊢;cases h5;rfl
 have h1:=hs.ov (t:=t) (e:=e) (xs:=[]) (v:=.slice none 0 0) hnd ae (w':=w) ⟨rfl,rfl,rfl,aaD _,fun _ _ _=>rfl⟩ (fun _=>aaD _) (vals:=[]) (World.ownsRow_nil w _ _ _) (fun b hb=>by cases hb) (fun x hx=>by cases hx) (fun j d hd=>by simp[flat] at hd);refine⟨_,h1.size,h1.defers,fun u d hd=>?_,h1.wok⟩;simp only[St.put] at hd ⊢;rw[aC] at hd;split at hd
 ·rename_i hu;subst hu;cases hd;refine⟨hsl.1,?_⟩;rw[hv];exact fp
 ·exact h1.slots u d hd
theorem B4 {s:St}{y:Code}{Q:Exit→St→Prop}(t:Nat)(e:TypeId)(ae:∀b,M0 b→b<w0.w.heap.size)(hnd:Nodup s.s=true)(ht:s.s.lookup t=some (.v .pl (.sc (.slice none 0 0))))(h:aw P w0 M0 y ((s.cK true t (.arr e [])).put t (.own t)) Q):aw P w0 M0 y s Q :=
 aw.imp (D0 t e ae hnd ht) h
theorem iH (p:SV→Bool):∀(X:List (Nat×SV))(t:Nat)(d:SV),Nodup X=true→X.lookup t=some d→p d=true→(X.filter fun q=>p q.2).lookup t=some d
 | [],t,d,_,h,_=>by simp at h
 | (u, e) :: r, t, d, hn, h, hs => by
   rw[aq] at h;simp only[Nodup,aaZ,abw] at hn;rw[abz];by_cases q:t=u
   · rw [if_pos q] at h
     simp only[aaB] at h;subst h;rw[if_pos hs,aq,if_pos q]
   · rw [if_neg q] at h
     have ih:=iH p r t d hn.2 h hs;split
     · rw[aq,if_neg q];exact ih
     · exact ih
theorem fK {t:Nat}(h:(G.all fun p=>p.2.stays true t||Nat.beq p.1 t)=true){u:Nat}{d:SV}(hl:G.lookup u=some d)(hne:u≠t):d.stays true t=true:=by
 have:=aa5.1 h _ (dJ hl);rw[abC] at this;rcases this with h1|h1
 ·exact h1
 ·exact absurd (aby h1) hne
theorem s8 {f:α→AV}{l:List α}{n t u v b:Nat}(ho:o.op=.call { callee:=.builtin .append,args:=#[.tmp u,.tmp v],argTypes:=#[T,T] })(hd:o.dst=some t)(hn:Nat.blt t n=true)(hnd:Nodup X=true)
  (hT:P.underlying T=some (.slice e))(hel:iE P e k b=true)(hu:X.lookup u=some (.v c (.sc (.slice none 0 0))))(hv:X.lookup v=some (.v .pl (.sl (l.map f))))(hf:∀z,(AV.cells (f z)).length=k)
  (hb:(l.map f).length*b≤140737488355328)(hm:(l.map f).length≤4611686018427387904)(hs:∀t' d,X.lookup t'=some d→t'≠t→d.stays true t=true)(ho2:ins t (.arr e (l.map f)) (ib true t o1)=o2)(ae:∀b,M0 b→b<w0.w.heap.size) :
  ∃s',Step P w0 M0 o ⟨n,X,o1⟩ s'∧fm P w0 M0 s' ⟨n,ins t (.own t) X,o2⟩:=by
 have h1:bg (⟨n,X,o1⟩:St).ev (.tmp u)=some (.slice none 0 0):=by simp only[bg,St.ev,hu];rfl
 have h2:viewAt (⟨n,X,o1⟩:St).ev (⟨n,X,o1⟩:St).o (.tmp v)=some (.pl,.sl (l.map f)):=by simp only[viewAt,St.ev,hv];rfl
 refine⟨_,we (s:=⟨n,X,o1⟩) (ys:=l.map f) ho hd hn hnd hT hel h1 ae (dX h2 hf) hb hm,?_⟩;refine eW J ho2.symm fun t' d ht'=>?_
 rw[aC] at ht';show(ins t (SV.own t) _).lookup t'=some d;rw[aC];by_cases q:t'=t
 ·rw[if_pos q] at ht' ⊢;exact ht'
 ·rw[if_neg q] at ht' ⊢;exact iH (fun e=>e.stays true t) X t' d hnd ht' (hs t' d ht' q)
end
structure ur (o:Obj):Prop where
 cells:∀c e f,o≠.cells c e f
 map:∀es c,o≠.map es c
theorem nH (r:Loop):ur (.loop r):=⟨fun _ _ _ h=>(by cases h),fun _ _ h=>(by cases h)⟩
theorem B5 (ds:Option (List Deferred)):ur (.deferred ds):=⟨fun _ _ _ h=>(by cases h),fun _ _ h=>(by cases h)⟩
section
variable {P:Program} {w0:Fr}{M0:Nat→Prop}{E:Env}{o:List (Nat×Ob)}{w:World}{l:Nat}{x x':Obj}
theorem Ar (hl:w.heap[l]?=some x)(hx:ur x){a:Addr}(h:w.cell? a=some v):(w.putObj l x').cell? a=some v:=by
 obtain⟨b,off,sp⟩:=a;by_cases hb:b=l
 ·subst hb;exfalso;unfold World.cell? at h;simp only at h;rw[hl] at h;cases x with
  | cells c e f=>exact hx.cells c e f rfl
  | _=>cases h
 ·rw[←h];exact World.cell?_of_block (World.putObj_heap_other hb)
theorem bL.pK {d:AV}(h:bL w M v d)(hl:w.heap[l]?=some x)(hx:ur x):bL (w.putObj l x') M v d:=by
 induction h with
 | sc v h=>exact .sc v h
 | sl a n cap xs k cv hn hc hk hbl hlf hr ih =>
   refine .sl a n cap xs k cv hn hc hk (fun h0=>?_) hlf ih;obtain⟨b,o,e,h1,h2,h3⟩:=hbl h0;exact⟨b,o,e,h1,by rw[World.putObj_size];exact h2,fun j hj=>Ar hl hx (h3 j hj)⟩
 | agg vs cs hn hlf hr ih=>exact .agg vs cs hn hlf ih
 | tup vs cs hn hr ih=>exact .tup vs cs hn ih
 | pc b o off cs cv h1 h2 hc hlf hr ih=>exact .pc b o off cs cv h1 (by rw[World.putObj_size];exact h2) (fun j hj=>Ar hl hx (hc j hj)) hlf ih
 | clo f vs cs hn hr ih=>exact .clo f vs cs hn ih
 | mp r es clock ks vs h1 h2 hc hk hn hr ih =>
   refine .mp r es clock ks vs h1 (by rw[World.putObj_size];exact h2) ?_ hk hn ih;rw[World.putObj_heap_other fun e=>?_]
   · exact hc
   · rw [e, hl] at hc
     injection hc with hc;exact hx.map es clock hc
theorem bm.pK {d:SV}(h:bm P M0 w E o v d)(hl:w.heap[l]?=some x)(hx:ur x):bm P M0 (w.putObj l x') E o v d:=by
 have caps:∀{vs:List Value}{cs:List qw},(∀(j:Nat) c,cs[j]?=some c→Dw M0 w E o (vs.getD j undef) c)→∀(j:Nat) c,cs[j]?=some c→Dw M0 (w.putObj l x') E o (vs.getD j undef) c:=fun h j c hc=>by
  have:=h j c hc;cases c with
  | bx id=>exact this
  | pl d=>exact bL.pK this hl hx
  | ow id=>exact this
  | om id=>exact this
 cases d with
 | v c d=>exact bL.pK h hl hx
 | own id=>exact h
 | pel id i off=>exact h
 | pbox id off=>exact h
 | omap id=>exact h
 | vsl id i n=>exact h
 | fn f cs=>obtain⟨vs,h1,h2,h3⟩:=h;exact⟨vs,h1,h2,caps h3⟩
 | hid R cs=>obtain⟨vs,h1,h2,h3⟩:=h;exact⟨vs,h1,h2,caps h3⟩
 | nst id=>exact h
 | nel id j=>exact h
 | dead=>exact h
theorem s9 {e:TypeId}{k n:Nat}{xs:List Value}{b:Nat}(h:w.ownsRow 0 e k v n xs)(hb:v.ownBlock=some b)(hl:w.heap[l]?=some x)(hx:ur x):b≠l:=by
 rcases h.2 with⟨h2,_⟩|⟨g,cap,cur,hv,_,h3,_⟩
 ·rw[h2] at hb;cases hb
 ·rw[hv] at hb;injection hb with hb;subst hb;intro q;have q:g=l:=q;rw[q,hl] at h3;injection h3 with h3;exact hx.cells _ _ _ h3
theorem xA {b:Nat}{es:Array MapEntry}{c:Nat}(h:w.heap[b]?=some (.map es c))(hl:w.heap[l]?=some x)(hx:ur x):b≠l:=fun q=>by rw[q,hl] at h;injection h with h;exact hx.map _ _ h
theorem As {f:Nat→Value}{cs:List Cell}{ln:Option (Nat×eh)}{b:Nat}(h:js P w0 M0 w E o f cs ln)(hb:fY f b cs ln)(hl:w.heap[l]?=some x)(hx:ur x):b≠l:=by
 obtain⟨j,c,hc,hln,hb⟩:=hb;have:=h.ok j c hc hln;cases c with
 | d y=>exact hb.elim
 | row e xs=>obtain⟨vals,h1,_⟩:=this;exact s9 h1.1 hb hl hx
 | mp ks vs =>
   obtain⟨b',e,es,clock,h1,_⟩:=this;rw[show f j=_ from hb] at e;injection e with e;injection e with e;subst e;exact xA h1 hl hx
def Fr.at (w0:Fr)(w:World)(hs:w0.w.heap.size≤w.heap.size)(m:Md):Fr:=⟨w,w0.K,fun b hb=>abj (w0.hK b hb) hs,w0.pin,w0.hpin,w0.dr,m⟩
theorem kP.pK {w1:Fr}(hK:w1.K=w0.K){id:Nat}{ob:Ob}(h:kP P w0 M0 w E o id ob)(hl:w.heap[l]?=some x)(hx:ur x):kP P w1 M0 (w.putObj l x') E o id ob:=by
 have hf:∀b,mK w0 M0 b→mK w1 M0 b:=fun b hb=>by unfold mK at hb ⊢;rw[hK];exact hb
 cases ob with
 | arr e xs =>
   obtain⟨vals,h1,h2,h3⟩:=h;exact⟨vals,⟨km h1.1 fun g hg=>World.putObj_heap_other (s9 h1.1 hg hl hx),fun b hb=>hf b (h1.2 b hb)⟩,h2,fun j d hd=>⟨(h3 j d hd).1,(h3 j d hd).2.pK hl hx⟩⟩
 | box e cs =>
   obtain⟨vals,h1,h2,h3,h4⟩:=h;refine⟨vals,?_,hf _ h2,h3,fun j s hs=>⟨(h4 j s hs).1,(h4 j s hs).2.1,(h4 j s hs).2.2.pK hl hx⟩⟩;rw[World.putObj_heap_other fun q=>?_]
   · exact h1
   · rw [q, hl] at h1
     injection h1 with h1;exact hx.cells _ _ _ h1
 | mp ks vs =>
   obtain⟨es,clock,h1,h2,h3,h4,h5⟩:=h;exact⟨es,clock,by rw[World.putObj_heap_other (xA h1 hl hx)];exact h1,hf _ h2,h3,h4,fun j d hd=>(h5 j d hd).pK hl hx⟩
 | nar e cs ln =>
   obtain⟨n,vals,h1,h2,h3,h4,h5⟩:=h;exact⟨n,vals,⟨km h1.1 fun g hg=>World.putObj_heap_other (s9 h1.1 hg hl hx),fun b hb=>hf b (h1.2 b hb)⟩,h2,h3,
     h4.go (nq.refl _ _) (fun b hb=>World.putObj_heap_other (As h4 hb hl hx)) (fun b _ hb=>hf b hb) (fun _ _ hr=>hr.pK hl hx),h5⟩
 | nmp ks cs ln =>
   obtain⟨es,clock,h1,h2,h3,h4,h5,h6,h7⟩:=h;exact⟨es,clock,by rw[World.putObj_heap_other (xA h1 hl hx)];exact h1,hf _ h2,h3,h4,h5,
     h6.go (nq.refl _ _) (fun b hb=>World.putObj_heap_other (As h6 hb hl hx)) (fun b _ hb=>hf b hb) (fun _ _ hr=>hr.pK hl hx),h7⟩
theorem gu.begin (h:gu P w0 M0 E o w)(hl:w.heap[l]?=some x)(hx:ur x)(hs:w0.w.heap.size≤(w.putObj l x').heap.size)(m:Md):gu P (w0.at (w.putObj l x') hs m) M0 E o (w.putObj l x') :=
 ⟨fun id ob ho=>kP.pK (w0:=w0) (w1:=w0.at (w.putObj l x') hs m) rfl (h.objs id ob ho) hl hx,h.disj,.refl _ _,h.pins⟩
theorem gu.pK (h:gu P w0 M0 E o w)(hl:w.heap[l]?=some x)(hx:ur x)(hK:¬w0.K l):gu P w0 M0 E o (w.putObj l x') :=
 ⟨fun id ob ho=>kP.pK (w1:=w0) rfl (h.objs id ob ho) hl hx,h.disj,h.below.trans ⟨rfl,rfl,rfl,by rw[World.putObj_size];exact aaD _,fun k hk=>World.putObj_heap_other fun e=>hK (e ▸ hk),fun _=>aaD _⟩,h.pins⟩
theorem gu.here (h:gu P w0 M0 E o w)(hs:w0.w.heap.size≤w.heap.size)(m:Md):gu P (w0.at w hs m) M0 E o w :=
 ⟨fun id ob ho=>by
   have:=h.objs id ob ho;cases ob with
   | arr e xs=>exact this
   | box e cs=>exact this
   | mp ks vs=>exact this
   | nar e cs ln =>
     obtain⟨n,vals,h1,h2,h3,h4,h5⟩:=this;exact⟨n,vals,h1,h2,h3,h4.go (nq.refl _ _) (fun _ _=>rfl) (fun _ _ h=>h) (fun _ _ h=>h),h5⟩
   | nmp ks cs ln =>
     obtain⟨es,clock,h1,h2,h3,h4,h5,h6,h7⟩:=this;exact⟨es,clock,h1,h2,h3,h4,h5,h6.go (nq.refl _ _) (fun _ _=>rfl) (fun _ _ h=>h) (fun _ _ h=>h),h7⟩,h.disj,.refl _ _,h.pins⟩
theorem gu.finish {w1:Fr}{W3:World}{E3:Env}{o':List (Nat×Ob)}(h3:gu P w1 M0 E3 o' W3)(hK1:w1.K=w0.K)(hp1:w1.pin=w0.pin)(h0:xj w0.dr w0.K w0.w w)(hl:w.heap[l]?=some x)(hl3:W3.heap[l]?=some x')(hx:ur x')
  (hsz:w.heap.size≤W3.heap.size)(hos:W3.os=w.os)(htp:W3.tape=w.tape)(hou:W3.output=w.output)(hdr:w0.dr→w.drawn≤W3.drawn)(hsame:∀k,w0.K k→k≠l→W3.heap[k]?=w.heap[k]?):gu P w0 M0 E3 o' (W3.putObj l x):=by
 have hl3':=gx hl3;refine⟨fun id ob ho=>(h3.objs id ob ho).pK hK1.symm hl3 hx,h3.disj,⟨hos.trans h0.os,htp.trans h0.tape,hou.trans h0.output,by rw[World.putObj_size];exact abb h0.size hsz,fun k hk=>?_,fun d=>abb (h0.drawn d) (hdr d)⟩,fun y hy=>h3.pins y (by rw[hp1];exact hy)⟩;by_cases q:k=l
 ·subst q;rw[World.putObj_heap_same hl3',←hl];exact h0.block k hk
 ·rw[World.putObj_heap_other q,hsame k hk q];exact h0.block k hk
end
def yR (l:Nat)(r:Loop)(ts:List Nat)(v:Value)(vs:List Value):Prop:=v=.func (.yield l) #[] #[]∧vs=ts.map fun t=>r.tmps.getD t undef
def Mq (P:Program)(l:Nat)(r:Loop)(ts:List Nat)(args caps:List SV)(o o':List (Nat×Ob)):Prop :=
 ∀ (w0 : Fr) (M0 : Nat → Prop) (E : Env) (w : World) (vs : List Value), (∀ b, M0 b → b < w0.w.heap.size) → gu P w0 M0 E o w → w0.K l → w.heap[l]? = some (.loop r) → vs.length = args.length →
   (∀(j:Nat) d,args[j]?=some d→bm P M0 w E o (vs.getD j undef) d)→(∀(j:Nat) d,caps[j]?=some d→bm P M0 w E o (r.tmps.getD (ts.getD j 0) undef) d) →
   YieldAt Fence.wide 0 P l vs.toArray w fun e w'=>∃E',e=.returned (.bool true)∧gu P w0 M0 E' o' w'
def Vu (o':List (Nat×Ob)):Exit→St→Prop
 | .normal,s=>∀id ob,o'.lookup id=some ob→s.o.lookup id=some ob
 | _,_=>False
def YC (P:Program)(bod:Code)(o':List (Nat×Ob)):Exit→St→Prop
 | .normal,s=>∀(w1:Fr)(M1:Nat→Prop),(∀b,M1 b→b<w1.w.heap.size)→(∃l,w1.md=.round l)→aw P w1 M1 bod s (Vu o')
 | _,_=>False
theorem xB:∀ {ts:List Nat}{cs:List SV}{t:Nat}{d:SV},(ts.zip cs).lookup t=some d→∃j,j<ts.length∧ts.getD j 0=t∧cs[j]?=some d
 | [],_,t,d,h=>by simp at h
 | _ :: _,[],t,d,h=>by simp at h
 | a :: ts, c :: cs, t, d, h => by
   rw[List.zip_cons_cons,aq] at h;split at h
   · next q=>subst q;injection h with h;subst h;exact⟨0,Nat.succ_pos _,rfl,rfl⟩
   · obtain ⟨j, h1, h2, h3⟩ := xB h
     exact⟨j+1,by simpa using h1,by simpa using h2,by simpa using h3⟩
theorem JX {a:Array Value}{q t:Nat}{u:Value}(hp:p<a.size)(hq:q<a.size):((a.setIfInBounds p u).setIfInBounds q v).getD t undef=if t=q then v else if t=p then u else a.getD t undef:=by
 simp only[abc,Array.getElem?_setIfInBounds,Array.size_setIfInBounds];by_cases h1:q=t
 ·subst h1;simp[hq]
 ·rw[if_neg h1,if_neg (abN h1)];by_cases h2:p=t
  ·subst h2;simp[hp]
  ·rw[if_neg h2,if_neg (abN h2)]
variable{asg bod:Code}
section
variable {P:Program}
theorem B6 {l:Nat}{r:Loop}{n q:Nat}{ts:List Nat}{d1 d2:SV}{o o':List (Nat×Ob)}(hst:r.state=.ready)(hpe:r.pending=none)(hn:r.tmps.size=n)(hps:r.params=#[p,q])(hasg:r.assign=asg)(hbod:r.body=bod)
   (hpq:(Nat.blt p n&&Nat.blt q n&&!Nat.beq p q&&ts.all fun t=>Nat.blt t n&&!Nat.beq t p&&!Nat.beq t q)=true)
   (hA:∀(w1:Fr)(M1:Nat→Prop),(∀b,M1 b→b<w1.w.heap.size)→(∃l,w1.md=.round l)→aw P w1 M1 asg ⟨n,(p,d1) :: (q,d2) :: ts.zip caps,o⟩ (YC P bod o')):Mq P l r ts [d1,d2] caps o o':=by
 intro w0 M0 E w vs ae hw hK hl hvs hargs hcaps;obtain⟨v1,v2,rfl⟩:∃v1 v2,vs=[v1,v2]:=by
   match vs,hvs with
   | [a,b],_=>exact⟨a,b,rfl⟩
 subst hasg hbod;simp only[aaZ,abw,aa5] at hpq;obtain⟨⟨⟨hp,hq⟩,hne⟩,hts⟩:=hpq;have hp:p<n:=by simpa using hp
 have hq:q<n:=by simpa using hq
 have hne:p≠q:=fun e=>by rw[e,acC] at hne;cases hne
 have hsz:=hw.below.size;have hy:=run_yield (P:=P) (args:=#[v1,v2]) hl (by rw[hps];rfl);refine⟨_,_,_,_,hy,roundIn_of_wpIn trivial ?_⟩;have hs0:ba P (w0.at w hsz (.round l)) M0 E ⟨n,(p,d1) :: (q,d2) :: ts.zip caps,o⟩ { tmps:=(r.params.zip #[v1,v2]).foldl (fun tmps (t,a)=>tmps.setIfInBounds t a) r.tmps,defers:=[] } w:=by
   have et:(r.params.zip #[v1,v2]).foldl (fun tmps (t,a)=>tmps.setIfInBounds t a) r.tmps=(r.tmps.setIfInBounds p v1).setIfInBounds q v2:=by rw[hps,show(#[p,q]:Array Nat).zip #[v1,v2]=#[(p,v1),(q,v2)] from by simp];rfl
   rw[et];refine⟨by simpa using hn,rfl,fun t d ht=>?_,hw.here hsz _⟩;rw[JX adh adh];simp only[aq] at ht;by_cases h1:p=t
   · subst h1
     rw[if_pos rfl] at ht;injection ht with ht;subst ht;rw[if_neg hne,if_pos rfl];exact⟨hp,hargs 0 d1 J⟩
   · rw [if_neg (abN h1)] at ht
     by_cases h2:q=t
     · subst h2
       rw[if_pos rfl] at ht;injection ht with ht;subst ht;rw[if_pos rfl];exact⟨hq,hargs 1 d2 J⟩
     · rw [if_neg (abN h2)] at ht
       rw[if_neg (abN h2),if_neg (abN h1)];obtain⟨j,hj,rfl,hd⟩:=xB ht;have:=hts (ts.getD j 0) (by rw[aax,aaF hj];exact abV hj);exact⟨by simpa using this.1.1,hcaps j d hd⟩
 have hAA:=hA (w0.at w hsz (.round l)) M0 (fun b hb=>abj (ae b hb) hsz) ⟨l,rfl⟩ _ w ⟨E,hs0⟩;refine wpIn_mono (show Code.wpIn (Fence.wide.inRound l) 0 P r.assign _ _ w from hAA) ?_;rintro e a1 wA ⟨s',hQ,E1,hs1⟩;cases e with
 | normal =>
   have hb1:=hs1.wok.below;have hlA:wA.heap[l]?=some (.loop r):=(hb1.block l hK).trans hl;refine⟨_,run_beginRound hlA hst,?_⟩;have hszA:(w0.at w hsz (.round l)).w.heap.size≤(wA.putObj l (.loop { r with state:=.busy })).heap.size:=by rw[World.putObj_size];exact hb1.size
   have hlB:(wA.putObj l (.loop { r with state:=.busy })).heap[l]?=some (.loop { r with state:=.busy }):=World.putObj_heap_same (gx hlA);have hs2:ba P ((w0.at w hsz (.round l)).at (wA.putObj l (.loop { r with state:=.busy })) hszA (.round l)) M0 E1 s' a1 (wA.putObj l (.loop { r with state:=.busy })) :=
     ⟨hs1.size,hs1.defers,fun t d ht=>⟨(hs1.slots t d ht).1,(hs1.slots t d ht).2.pK hlA (nH r)⟩,hs1.wok.begin hlA (nH r) hszA _⟩
   have hBB:=hQ ((w0.at w hsz (.round l)).at (wA.putObj l (.loop { r with state:=.busy })) hszA (.round l)) M0 (fun b hb=>abj (abj (ae b hb) hsz) hszA) ⟨l,rfl⟩ a1 _ ⟨E1,hs2⟩;refine wpIn_mono (show Code.wpIn (Fence.wide.inRound l) 0 P r.body _ a1 _ from hBB) ?_;rintro e a3 W3 ⟨s3,hQ3,E3,hs3⟩;cases e with
   | normal =>
     have hb3:=hs3.wok.below;have hl3:W3.heap[l]?=some (.loop { r with state:=.busy }):=(hb3.block l hK).trans hlB;have hend:=run_endRound (P:=P) none hl3;refine⟨_,_,hend,E3,rfl,?_⟩;have er:({ ({ r with state:=.busy }:Loop) with state:=if(none:Option Code).isNone then .ready else .done,pending:=none }:Loop)=r:=by
       cases r;simp_all
     rw[er];refine gu.finish (w1:=(w0.at w hsz (.round l)).at _ hszA (.round l)) (hs3.wok.mN hQ3) J J hw.below hl hl3 (nH _) ?_ (hb3.os.trans hb1.os) (hb3.tape.trans hb1.tape) (hb3.output.trans hb1.output) (fun d=>abb (hb1.drawn d) (hb3.drawn d)) fun k hk hkl=>?_
     · have h1 := hb1.size
       have h3:=hb3.size;have h4:(wA.putObj l (.loop { r with state:=.busy })).heap.size=wA.heap.size:=World.putObj_size;have h5:((w0.at w hsz (.round l)).at (wA.putObj l (.loop { r with state:=.busy })) hszA (.round l)).w.heap.size=(wA.putObj l (.loop { r with state:=.busy })).heap.size:=rfl;have h6:(w0.at w hsz (.round l)).w.heap.size=w.heap.size:=rfl;omega
     · exact(hb3.block k hk).trans ((World.putObj_heap_other hkl).trans (hb1.block k hk))
   | _=>exact hQ3.elim
 | _=>exact hQ.elim
end
section
variable {P:Program} {w0:Fr}{M0:Nat→Prop}
def Mr (P:Program)(w0:Fr)(M0:Nat→Prop)(o:Oper)(s s':St):Prop :=
 o.guard=none∧∀a w Q,pv P w0 M0 s a w→o.wpIn Fence.wide 0 P a w (fun a' w'=>pv P w0 M0 s' a' w') Q
theorem xC {o:Oper}{cx:Operand}{args:Array Operand}{l:Nat}{ev:Operand→Value}(ho:o.op=.call { callee:=.value cx,args:=args,argTypes:=ats })
  (hc:ev cx=.func (.yield l) #[] #[]):execOp ev o=Instr.yield l (args.map ev):=by
 simp[execOp,ho,resolve,hc,Deferred.ofValue,invoke]
theorem r8 {o:Oper}{s:St}{cx:Operand}{xs:Array Operand}{t l:Nat}{r:Loop}{ts:List Nat}{cps:List qw}{oc oc':List (Nat×Ob)}(ρ:List (Nat×Nat))(ho:o.op=.call { callee:=.value cx,args:=xs,argTypes:=ats })(hg:o.guard=none)(hd:o.dst=some t)(hn:Nat.blt t s.n=true)(hnd:Nodup s.s=true)
  (hc:s.ev cx=some (.hid (yR l r ts) cps))(ha:PL s xs.toList=some svs)(h:Mq P l r ts args caps oc oc')(Ms:w0.K l)(hwl:w0.w.heap[l]?=some (.loop r))(hargs:lu s ρ (cY ρ oc) svs args)(hcaps:lu s ρ (cY ρ oc) (cps.map qw.sv) caps)(hob:oA s ρ oc)(hinj:ju (cY ρ oc)=true)(hsame:oc.map (fun p=>(p.1,p.2.kind))=oc'.map (fun p=>(p.1,p.2.kind)))
  (hbig:oc.all (fun p=>Nat.beq p.2.kind 0||Nat.ble 1000000 p.1)=true)(hpl:oc'.all (fun p=>p.2.plain (oc'.map (·.1)))=true)(ae:∀b,M0 b→b<w0.w.heap.size) :
  Mr P w0 M0 o s ((s.after ρ oc').put t (.v .pl (.sc (.bool true)))):=by
 refine⟨hg,?_⟩;rintro a w Q ⟨E,hs⟩;obtain⟨env,⟨hcv,henv⟩,hel,hecap⟩:=hs.ev hc;obtain⟨hxn,hxr⟩:=Gv hs ha;have hob':=hob.out;obtain⟨han,har⟩:=hargs.get;obtain⟨hcn,hcr⟩:=hcaps.get;have hwc:=wC hs.wok hob' hinj;have hlt:l<w.heap.size:=abj (w0.hK l Ms) hs.wok.below.size;have hno:¬owned (fJ E ρ) oc l:=fun hq=>(hs.wok.bH (eZ hob' hq)).1.1 Ms
 have hwl':w.heap[l]?=some (.loop r):=(hs.wok.below.block l Ms).trans hwl;have hcps:∀(j:Nat) d,(cps.map qw.sv)[j]?=some d→bm P M0 w E s.o (env.getD j undef) d:=fun j d hd=>by
  rw[aaI,aaH] at hd;obtain⟨c,hc,rfl⟩:=hd;have:=hecap j c hc;cases c with
  | bx id=>exact this
  | pl d=>exact this
  | ow id=>exact this
  | om id=>exact this
 have hall:=h (Tp w0.dr w (fJ E ρ) oc) (Lx M0 (owned E s.o) (owned (fJ E ρ) oc)) (fJ E ρ) w (xs.toList.map a.eval) (fun b hb=>?_) hwc ⟨hlt,hno⟩ hwl' (by rw[←han];simpa using hxn) (fun j d hd=>?_) (fun j d hd=>?_)
 ·refine⟨fun _ _=>trivial,?_⟩;obtain⟨fn,tmps,asg,bod,hy,hR⟩:=hall;have e1:(xs.toList.map a.eval).toArray=xs.map a.eval:=by apply acw;simp
  rw[e1] at hy;rw[show(Fence.wide).round=none from rfl,Oper.semAt_none,xC ho hcv,hy];refine⟨fun hd=>by simp[Fence.wide] at hd,RoundIn.mono hR fun e w' hw'=>?_⟩;obtain⟨E',he,hw'⟩:=hw';subst he;simp only[hd];obtain⟨E'',h1,h2⟩:=hs.after hnd hob' hinj hsame hbig hpl hw';exact⟨E'',h1.put (by simpa[St.after] using hn) (.sc _ J)⟩
 ·rcases hb with hb|hb
  ·have:=ae b hb;have:=hs.wok.below.size;show b<w.heap.size;omega
  ·exact(hs.wok.bH hb.1).2
 ·obtain⟨sv,hsv,hok⟩:=har j d hd;exact xt hs.wok hob' (hxr j sv hsv) hok
 ·obtain⟨sv,hsv,hok⟩:=hcr j d hd;have h1:=hcps j sv hsv;have hj:j<ts.length:=by
   have:=(aa0.1 hsv).1;rw[aaA,←hel,henv,aaA] at this;exact this
  have h2:env.getD j undef=r.tmps.getD (ts.getD j 0) undef:=by
   rw[henv,aax,aaI,aaF hj,aax,aaF hj];rfl
  rw[h2] at h1;exact xt hs.wok hob' h1 hok
theorem JY {o:Oper}{a:Act}{w:World}{K K':Act→World→Prop}{Q Q':Exit→Act→World→Prop}(hQ:∀e a w,Q e a w→e=.normal)(hK:∀a w,K a w→K' a w)(h:o.wp P a w K Q):o.wpIn Fence.wide 0 P a w K' Q':=by
 refine⟨fun _ _=>trivial,?_⟩;rw[show(Fence.wide).round=none from rfl,Oper.semAt_none];unfold Oper.wp at h;generalize (execOp a.eval o).run P w=r at *;cases r with
 | ok x w' =>
   cases x with
   | enter f args =>
     refine⟨fun hd=>by simp[Fence.wide] at hd,callsIn_wide.2 (Calls.mono (show Calls P f args w' _ from h) fun e w'' he=>?_)⟩;cases e with
     | returned v=>exact hK _ _ he
     | panicked ch=>exact nomatch hQ _ _ _ he
     | outgrown=>obtain⟨a0,w0,he⟩:=he;exact nomatch hQ _ _ _ he
   | row rw' args =>
     refine⟨fun hd=>by simp[Fence.wide] at hd,fun c cs _=>?_⟩;obtain⟨v,w'',r1,s1⟩:=(show Rows P rw' args w' _ from h) c cs;exact⟨v,w'',hK _ _ r1,stepsIn_wide.2 s1⟩
   | value v=>exact hK _ _ h
   | skip=>exact hK _ _ h
   | defer d=>exact hK _ _ h
   | _=>exact(show False from h).elim
 | halt x w' =>
   cases x with
   | panic v=>exact nomatch hQ _ _ _ (show Q (.panic _) a w' from h)
   | _=>exact(show False from h).elim
theorem pL {ops:Array Oper}{Q Q':Exit→Act→World→Prop}{m:List Nat}(hQ:∀e a w,Q e a w→e=.normal)(hK:∀a w,Q .normal a w→wpOpsIn Fence.wide 0 P ops Q' m a w):∀(r:List Nat)(a:Act)(w:World),wpOps P ops Q r a w→wpOpsIn Fence.wide 0 P ops Q' (r++m) a w
 | [],a,w,h=>hK a w h
 | i :: r, a, w, h => by
   rw[wpOps_cons] at h;rw[acg,wpOpsIn_cons];unfold wpOp at h;unfold wpOpIn;cases ho:ops[i]? with
   | none=>rw[ho] at h;exact pL hQ hK r a w h
   | some o =>
     rw[ho] at h;dsimp only at h ⊢;by_cases hw:Region.wanted o (yielded ops a.tmps)=true
     · rw [if_pos hw] at h ⊢
       rcases h with h|⟨_,a0,w0,h⟩
       · exact JY hQ (fun a w=>pL hQ hK r a w) h
       · exact nomatch hQ _ _ _ h
     · rw [if_neg hw] at h ⊢
       exact⟨fun _ _=>trivial,pL hQ hK r _ w h⟩
theorem l9 {ops:Array Oper}{Q:St→Prop}:∀(l:List Oper)(k:Nat)(s:St),(∀j,j<l.length→l[j]?=ops[k+j]?)→kn P w0 M0 ops Q l s→vp P w0 M0 ops (List.range' k l.length) s Q
 | [], k, s, _, h => by
   obtain⟨s1,hi,hq⟩:=h;exact fun a w hs=>H4 hq a w (hi a w hs)
 | o :: rest, k, s, hl, h => by
   obtain⟨s1,hi,s',h1,h2⟩:=h;have ho:ops[k]?=some o:=by have:=hl 0 (Nat.succ_pos _);simpa using this.symm
   have ih:=l9 rest (k+1) s' (fun j hj=>by have:=hl (j+1) (by rw[aaE];omega);rw[abY] at this;rw[this];congr 1;omega) h2;rw[aaE,List.range'_succ];rcases h1 with⟨hg,hs⟩|⟨hg,t,ht,hn,rfl⟩
   · exact fun a w hsim=>DA ho hg hs ih a w (hi a w hsim)
   · exact fun a w hsim=>DC ho hg ht hn ih a w (hi a w hsim)
theorem B7 {ops:Array Oper}{id:Nat}{s:St}{Q:Exit→St→Prop}(hmd:w0.md=.plain)(pre post:List Oper)(o:Oper)(hl:ops.toList=pre++o :: post)
  (h:kn P w0 M0 ops (fun s1=>∃s2,Mr P w0 M0 o s1 s2∧kn P w0 M0 ops (Q .normal) post s2) pre s):aw P w0 M0 (.region id ops false) s Q:=by
 intro a w hs;rw[hmd];refine(wpIn_wide (n:=0)).1 (wpIn_region ?_);have hsz:ops.size=pre.length+(1+post.length):=by rw[←acB,hl];simp;omega
 have hget:∀j:Nat,ops[j]?=(pre++o :: post)[j]?:=fun j=>by rw[←hl,abi]
 have er:List.range ops.size=List.range' 0 pre.length++(pre.length :: List.range' (pre.length+1) post.length):=by
  rw[hsz,List.range_eq_range',←List.range'_append_1,abL,Nat.add_comm 1,List.range'_succ]
 rw[er];have h1:=l9 pre 0 s (fun j hj=>by rw[abL,hget j,aa8 hj]) h;refine pL (fun e a w h=>h.1) (fun a1 w1 hq=>?_) _ a w (h1 a w hs);obtain⟨_,s1,⟨s2,hy,h2⟩,hs1⟩:=hq;have ho:ops[pre.length]?=some o:=by rw[hget,aa6 (aaD _),acM];rfl
 have h3:=l9 post (pre.length+1) s2 (fun j hj=>by rw[hget,aa6 adh,show pre.length+1+j-pre.length=j+1 by omega,abY]) h2;rw[wpOpsIn_cons];unfold wpOpIn;rw[ho];dsimp only
 rw[if_pos (by unfold Region.wanted;rw[hy.1])];refine Oper.wpIn_mono (fun a2 w2 hs2=>?_) (hy.2 a1 w1 _ hs1);have h4:=pL (P:=P) (ops:=ops) (m:=[]) (Q':=fun e a' w'=>∃s',Q e s'∧pv P w0 M0 s' a' w') (fun e a w h=>h.1) (fun a3 w3 hq=>?_) _ a2 w2 (h3 a2 w2 hs2)
 ·rwa [abe] at h4
 ·obtain⟨_,s',hq,hs3⟩:=hq;exact⟨s',hq,hs3⟩
def Au (P:Program)(f:FuncId)(l:Nat)(r:Loop)(args:List SV)(o:List (Nat×Ob))(o':List (Nat×Ob)):Prop :=
 cq P f∧∀(w0:Fr)(M0:Nat→Prop)(E:Env)(w:World)(vs:List Value),(∀b,M0 b→b<w0.w.heap.size)→gu P w0 M0 E o w→w0.K l→w.heap[l]?=some (.loop r)→vs.length=args.length →
   (∀(j:Nat) d,args[j]?=some d→bm P M0 w E o (vs.getD j undef) d)→Calls P f vs.toArray w fun e w'=>∃v E',e=.returned v∧gu P w0 M0 E' o' w'
theorem me {n l:Nat}{r:Loop}{c:Code}(hf:R1 P f n c){o o':List (Nat×Ob)}(hn:args.length≤n)
  (h:∀(w0:Fr)(M0:Nat→Prop),(∀b,M0 b→b<w0.w.heap.size)→w0.md=.plain→w0.K l→w0.w.heap[l]?=some (.loop r)→aw P w0 M0 c (St.fH n args o) (Me o')):Au P f l r args o o':=by
 refine⟨hf.bu,fun w0 M0 E w vs ae hw hK hl hv hr=>?_⟩;obtain⟨fn,h1,h2,h3,h4,h5⟩:=hf;refine(dz h1 h2 h3 (R:=fun v E' s' w'=>gu P w0 M0 E' o' w') hn vs hv hw hr (h w0.plain M0 ae J hK ((hw.below.block l hK).symm.trans hl)) (fun e s' a' w' E' hq hs=>?_)).mono fun e w' ⟨v,E',s',he,hR⟩=>⟨v,E',he,hR⟩
 have fin:(∀id ob,o'.lookup id=some ob→s'.o.lookup id=some ob)→∃v,(results fn a'.tmps).run P w'=.ok v w'∧gu P w0 M0 E' o' w':=fun q2 =>
  ⟨.tuple #[],by simp[results,h4],hs.wok.mN q2⟩
 cases e with
 | normal=>exact⟨.inl rfl,fin hq⟩
 | ret=>exact⟨.inr rfl,fin hq⟩
 | exit _=>exact hq.elim
 | goto _=>exact hq.elim
 | panic _=>exact hq.elim
 | outgrown=>exact hq.elim
theorem B8 {f:FuncId}(hf:cq P f)(args:Array Value)(w:World):(callFunc f args).run P w=.ok (.enter f args) w:=by
 obtain⟨fn,h1,h2,h3⟩:=hf;have h3':fn.body≠none:=by intro hn;rw[hn] at h3;cases h3
 have h2' : ¬ fn.name = "runtime.NumGoroutine" := by simpa using h2
 simp[callFunc,h1,h2',h3']
theorem Av:∀ {Ds Ds':List Nat},Ds.map (fun D=>({ target:=.collected D,args:=#[] }:Deferred))=Ds'.map (fun D=>{ target:=.collected D,args:=#[] })→Ds=Ds'
 | [],[],_=>rfl
 | [],_ :: _,h=>by cases h
 | _ :: _,[],h=>by cases h
 | D :: Ds, D' :: Ds', h => by
   simp only[abx,ac3,Deferred.mk.injEq,Target.collected.injEq] at h;rw[h.1.1,Av h.2]
def uu (S:List (Nat×SV)):List Nat→Option (List SV)
 | []=>some []
 | t :: ts => match S.lookup t, uu S ts with
   | some d,some ds=>some (d :: ds)
   | _,_=>none
theorem xD {S:List (Nat×SV)}:∀{ts:List Nat}{ds:List SV},uu S ts=some ds→ts.length=ds.length∧∀(j:Nat) d,ds[j]?=some d→S.lookup (ts.getD j 0)=some d
 | [],ds,h=>by simp only[uu,aaB] at h;subst h;exact⟨rfl,fun j d hd=>by simp at hd⟩
 | t :: ts, ds, h => by
   unfold uu at h;split at h
   · next d0 ds0 h1 h2 =>
     injection h with h;subst h;obtain⟨g1,g2⟩:=xD h2;refine⟨by simp[g1],fun j d hd=>?_⟩;cases j with
     | zero=>simp only[abf,aaB] at hd;subst hd;exact h1
     | succ j=>exact g2 j d (by simpa using hd)
   · cases h
theorem xE {s:St}{g:Operand}{ps:Array Tmp}{Q:Exit→St→Prop}{gf:FuncId}{csI capsC:List SV}(ρ:List (Nat×Nat))(oc0 ocN:List (Nat×Ob))(ts:List Nat)(cps:List qw)(svs:List SV)(hmd:w0.md=.marks)(hnd:Nodup s.s=true)
   (hg:s.ev g=some dc)(hcal:nF dc=some (gf,csI))(hci:lu s ρ (cY ρ oc0) csI capsC)(hts:uu s.s ts=some svs)(hcaps:lu s ρ (cY ρ oc0) svs (cps.map qw.sv))
   (hit:∀l r,r.state=.ready→r.pending=none→r.tmps.size=s.n→r.params=ps→r.assign=asg→r.body=bod→Au P gf l r (.hid (yR l r ts) cps :: capsC) oc0 ocN)
   (hob:oA s ρ oc0)(hinj:ju (cY ρ oc0)=true)(hsame:oc0.map (fun p=>(p.1,p.2.kind))=ocN.map (fun p=>(p.1,p.2.kind)))
   (hbig:oc0.all (fun p=>Nat.beq p.2.kind 0||Nat.ble 1000000 p.1)=true)(hpl:ocN.all (fun p=>p.2.plain (ocN.map (·.1)))=true)(ae:∀b,M0 b→b<w0.w.heap.size)
   (hq:Q .normal (s.after ρ ocN)):aw P w0 M0 (.rangeFunc g ps asg bod) s Q:=by
 rintro a w ⟨E,hs⟩;rw[hmd];refine(wpIn_wide (n:=0)).1 (wpIn_rangeFunc fun fn _=>?_);obtain⟨rec,hrec⟩:∃rec:Loop,rec={ state:=.ready,pending:=none,fn,tmps:=a.tmps,params:=ps,assign:=asg,body:=bod,defers:=w.heap.size }:=⟨_,rfl⟩;obtain⟨W1,Vv⟩:∃W1,(w.alloc (.deferred (some []))).alloc (.loop rec)=W1:=⟨_,rfl⟩;have hz1:W1.heap.size=w.heap.size+2:=by rw[←Vv];simp
 have hL1:W1.heap[w.heap.size+1]?=some (.loop rec):=by
   rw[←Vv];have:=World.alloc_heap_new (w.alloc (.deferred (some []))) (.loop rec);rwa [World.size_alloc] at this
 have hD1:W1.heap[w.heap.size]?=some (.deferred (some [])):=by
   rw[←Vv];exact(RowKit.Below.heap_alloc _ _ _ (by simp)).trans (World.alloc_heap_new w _)
 have hb1:bD w0.dr w.heap.size w W1:=by
   rw[←Vv];exact((Below.refl _ w).alloc (aaD _) _).alloc (by simp) _
 have hs1:=hs.grow hb1;have hob':=hob.out;obtain⟨vg,hvg,hgn,hgr⟩:=vx (hs1.ev hg) hcal;obtain⟨hcin,hcir⟩:=hci.get;have hI:=hit (w.heap.size+1) rec (by rw[hrec]) (by rw[hrec]) (by rw[hrec];exact hs.size) (by rw[hrec]) (by rw[hrec]) (by rw[hrec]);have hwc:=wC hs1.wok hob' hinj;have hnoL:∀b,w.heap.size≤b→¬owned (fJ E ρ) oc0 b:=fun b hb hq=>by
   have:=(hs.wok.bH (eZ hob' hq)).2;omega
 refine⟨w.heap.size+1,[{ target:=.collected w.heap.size,args:=#[] }],W1,{ target:=.fn (.func gf) vg.toArray,args:=#[.func (.yield (w.heap.size+1)) #[] #[]] },W1,gf,
   #[.func (.yield (w.heap.size+1)) #[] #[]]++vg.toArray,W1,?_,?_,fun _ _=>trivial,?_,fun hd=>by simp[Fence.wide] at hd,?_⟩
 · rw[←Vv,hrec];exact run_enterLoop_outer _ _ _ _ _
 · simp only [resolve, hvg]
   simp[go_sem,Deferred.ofValue]
 · simp[invoke,go_sem,B8 hI.1]
 · have hall := hI.2 (Tp w0.dr W1 (fJ E ρ) oc0) (Lx M0 (owned E s.o) (owned (fJ E ρ) oc0)) (fJ E ρ) W1 (.func (.yield (w.heap.size + 1)) #[] #[] :: vg) (fun b hb => ?_) hwc ⟨adh, hnoL _ adh⟩ hL1 (by simpa using hgn.trans hcin) (fun j d hd => ?_)
   · refine callsIn_wide.2 ?_
     have e1:(Value.func (.yield (w.heap.size+1)) #[] #[] :: vg).toArray=#[Value.func (.yield (w.heap.size+1)) #[] #[]]++vg.toArray:=by simp
     rw[e1] at hall;refine hall.mono fun e W2 ⟨v,E',he,hw'⟩=>?_
     subst he;obtain⟨E'',h1,_⟩:=hs1.after hnd hob' hinj hsame hbig hpl hw';have hkeep:∀b,b<W1.heap.size→¬owned (fJ E ρ) oc0 b→W2.heap[b]?=W1.heap[b]?:=fun b h1 h2=>hw'.below.block b ⟨h1,h2⟩
     have hl2:W2.heap[w.heap.size+1]?=some (.loop rec):=(hkeep _ adh (hnoL _ adh)).trans hL1;have hd2:W2.heap[w.heap.size]?=some (.deferred (some [])):=(hkeep _ adh (hnoL _ (aaD _))).trans hD1;refine⟨none,_,by have:=run_endLoop (P:=P) hl2 (by rw[hrec];simp);rw[hrec] at this;exact this,s.after ρ ocN,hq,E'',?_⟩;have hsz0:=hs.wok.below.size;refine⟨h1.size,?_,fun t d ht=>⟨(h1.slots t d ht).1,(h1.slots t d ht).2.pK hl2 (nH _)⟩,h1.wok.pK hl2 (nH _) fun hk=>by have:=w0.hK _ hk;omega⟩;have hm0:=hs.defers;have hm1:=h1.defers;unfold Marks at hm0 hm1 ⊢;rw[hmd] at hm0 hm1 ⊢;obtain⟨Ds,g1,g2,g3⟩:=hm0;obtain⟨Ds',k1,k2,k3⟩:=hm1;obtain rfl:Ds=Ds':=Av (g1.symm.trans k1);refine⟨w.heap.size :: Ds,by rw[abx,←g1];rfl,abt.2 ⟨fun D hD=>?_,g2⟩,fun D hD=>?_⟩
     · have:=gx (g3 D hD).2;omega
     · rcases aa3.1 hD with rfl | hD
       · exact⟨hsz0,by rw[World.putObj_heap_other adh];exact hd2⟩
       · have := gx (g3 D hD).2
         exact⟨(g3 D hD).1,by rw[World.putObj_heap_other adh];exact(k3 D hD).2⟩
   · rcases hb with hb | hb
     · have:=ae b hb;have:=hs1.wok.below.size;show b<W1.heap.size;omega
     · exact(hs1.wok.bH hb.1).2
   · cases j with
     | zero =>
       simp only[abf,aaB] at hd;subst hd;obtain⟨han,har⟩:=hcaps.get;obtain⟨htl,htr⟩:=xD hts;have hcl:cps.length=ts.length:=by have:=han;rw[aaA] at this;omega
       refine⟨ts.map fun t=>rec.tmps.getD t undef,⟨rfl,rfl⟩,by rw[aaA,hcl],fun j c hc=>?_⟩;obtain⟨sv,hsv,hok⟩:=har j (qw.sv c) (by rw[aaI,hc];rfl);have hj:j<ts.length:=by have:=(aa0.1 hc).1;omega
       have h2:(ts.map fun t=>rec.tmps.getD t undef).getD j undef=a.tmps.getD (ts.getD j 0) undef:=by
         rw[aax,aaI,aaF hj,aax,aaF hj,hrec];rfl
       rw[h2];have h3:=xt hs1.wok hob' (hs1.slots _ _ (htr j sv hsv)).2 hok;cases c with
       | bx id=>exact h3
       | pl d=>exact h3
       | ow id=>exact h3
       | om id=>exact h3
     | succ j =>
       rw[abY] at hd;obtain⟨sv,hsv,hok⟩:=hcir j d hd;exact xt hs1.wok hob' (hgr j sv hsv) hok
end
inductive iO (B:Nat):World→World→Prop
 | refl (w:World):iO B w w
 | turn {w w':World}{l:Nat}{x x':Obj}(hB:B≤l)(hl:w.heap[l]?=some x)(hx:ur x)(h:iO B (w.putObj l x') w'):iO B w w'
section
variable {P:Program} {B:Nat}{w w':World}
theorem iO.rep (h:iO B w w'){d:AV}(hr:bL w M v d):bL w' M v d:=by
 induction h with
 | refl w=>exact hr
 | turn hB hl hx _ ih=>exact ih (hr.pK hl hx)
theorem iO.own (h:iO B w w'){e:TypeId}{k n:Nat}{xs:List Value}(hr:w.ownsRow 0 e k v n xs):w'.ownsRow 0 e k v n xs:=by
 induction h with
 | refl w=>exact hr
 | turn hB hl hx _ ih=>exact ih (km hr fun g hg=>World.putObj_heap_other (s9 hr hg hl hx))
theorem iO.grown (h:iO B w w'):bD D B w w':=by
 induction h with
 | refl w=>exact .refl _ _
 | @turn w w' l x x' hB hl hx _ ih =>
   have h1:bD D B w (w.putObj l x'):=⟨⟨rfl,rfl,rfl,by rw[World.putObj_size];exact aaD _,fun k hk=>World.putObj_heap_other adh⟩,fun _=>aaD _⟩;exact h1.trans ih
theorem iO.ret (h:iO B w w'){K:Nat→Prop}{r:RV}(hr:iN P w M K v r):iN P w' M K v r:=by
 cases r with
 | p d=>exact h.rep hr
 | fresh e xs =>
   obtain⟨vals,⟨h1,h2⟩,h3,h4⟩:=hr;exact⟨vals,⟨h.own h1,h2⟩,h3,fun j d hd=>⟨(h4 j d hd).1,h.rep (h4 j d hd).2⟩⟩
theorem ta {fn:Func}{tmps:Array Value}{R:Ending→World→Prop}:∀(Ds:List Nat)(w:World),Ds.Pairwise (·≠·)→(∀D∈Ds,B≤D∧w.heap[D]?=some (.deferred (some []))) →
   (∀w4,iO B w w4→∃v,(results fn tmps).run P w4=.ok v w4∧R (.returned v) w4)→LeavesInM Fence.wide 0 P fn tmps R (Ds.map fun D=>{ target:=.collected D,args:=#[] }) .returning w
 | [],w,_,_,h=>h w (.refl w)
 | D :: Ds, w, hp, hd, h => by
   have hp':=abt.1 hp;have hD:=hd D aaJ;refine⟨by simp,.inl ⟨D,_,rfl,run_takeDeferred hD.2,ta Ds _ hp'.2 (fun D' hD'=>⟨(hd D' (aaW _ hD')).1,?_⟩) fun w4 h4=>h w4 (.turn hD.1 hD.2 (B5 _) h4)⟩⟩;rw[World.putObj_heap_other fun e=>hp'.1 D' hD' e.symm];exact(hd D' (aaW _ hD')).2
abbrev Fr.allM (D:Prop)(w:World):Fr:={ Fr.PV D w with md:=.marks }
theorem Mt {M0:Nat→Prop}:gu P (Fr.allM D w) M0 ⟨fun _=>undef,fun _=>0,fun _ _=>undef⟩ [] w :=
 ⟨fun id ob ho=>by simp at ho,fun id ob id' ob' b ho=>by simp at ho,.refl _ _,fun x hx=>by cases hx⟩
theorem pM {M0:Nat→Prop}{n:Nat}{fn:Func}{c:Code}(hf:P.funcs[f]?=some fn)(hb:fn.body=some c)(hnt:fn.ntmps=n){Q:Exit→St→Prop}{R:Value→World→Prop}(hn:args.length≤n)(vs:List Value)(hv:vs.length=args.length)
  (hr:∀(j:Nat) d,args[j]?=some d→bm P M0 w ⟨fun _=>undef,fun _=>0,fun _ _=>undef⟩ [] (vs.getD j undef) d)
  (h:aw P (Fr.allM D w) M0 c (St.fH n args []) Q)
  (hQ:∀e s' a' w' E',Q e s'→ba P (Fr.allM D w) M0 E' s' a' w'→(e=.normal∨e=.ret)∧∀w4,iO w.heap.size w' w4→∃v,(results fn a'.tmps).run P w4=.ok v w4∧R v w4) :
  Calls P f vs.toArray w fun e w'=>∃v,e=.returned v∧R v w':=by
 have hE:ba P (Fr.allM D w) M0 ⟨fun _=>undef,fun _=>0,fun _ _=>undef⟩ (St.fH n args []) { tmps:=vs.toArray++Array.replicate (fn.ntmps-vs.toArray.size) undef,defers:=[] } w:=by
  refine⟨by simp[St.fH,hnt];omega,.nil J,fun t d ht=>?_,Mt⟩;obtain⟨_,he⟩:=kF args 0 t d ht;rw[acE] at he;have hlt:t<args.length:=(aa0.1 he).1;refine⟨by simp[St.fH];omega,?_⟩;have:=hr t d he;have hget:(vs.toArray++Array.replicate (fn.ntmps-vs.toArray.size) undef).getD t undef=vs.getD t undef:=by
   rw[abc,ack (by simp;omega),aax];simp
  rw[hget];exact this
 refine callsIn_wide.1 (callsIn_of_wp_marks (n:=0) hf hb trivial (wpIn_wide.2 (wp_mono (show Code.wp P c _ _ _ from h _ _ ⟨_,hE⟩) fun e a' w' ⟨s',hq,E',hs⟩=>?_)) J);obtain⟨he,hR⟩:=hQ e s' a' w' E' hq hs;have hm:=hs.defers;obtain⟨Ds,g1,g2,g3⟩:=(show ∃Ds:List Nat,a'.defers=Ds.map (fun D=>{ target:=.collected D,args:=#[] })∧Ds.Pairwise (·≠·)∧∀D∈Ds,w.heap.size≤D∧w'.heap[D]?=some (.deferred (some [])) from hm);have fin:LeavesInM Fence.wide 0 P fn a'.tmps (fun e w'=>∃v,e=.returned v∧R v w') a'.defers .returning w':=by
  rw[g1];exact ta (B:=w.heap.size) Ds w' g2 g3 fun w4 h4=>let⟨v,h5,h6⟩:=hR w4 h4;⟨v,h5,v,rfl,h6⟩
 rcases he with rfl|rfl
 ·exact fin
 ·exact fin
theorem xF {n t:Nat}{c:Code}(hf:H5 P f n t c){r:RV}(hn:ds.length≤n)
   (h:∀(w0:Fr)(M0:Nat→Prop),(∀b,M0 b→b<w0.w.heap.size)→w0.md=.marks→aw P w0 M0 c (St.enter n .mx ds) (zB t r)):au P f ds r:=by
 refine⟨hf.bu,fun w vs hv hr=>?_⟩;have h0:=h (Fr.allM True w) (fun b=>b<w.heap.size) (fun b hb=>hb) rfl;rw[e7] at h0;obtain⟨fn,h1,h2,h3,h4,h5⟩:=hf;refine pM h1 h2 h3 (R:=fun v w'=>Below w.heap.size w w'∧iN P w' (fun b=>b<w.heap.size) (fun b=>b<w.heap.size) v r) (by simpa using hn) vs (by simpa using hv) (fun j d hd=>?_) h0 (fun e s' a' w' E' hq hs=>?_)
 · rw [aaI, aaH] at hd
   obtain⟨a,ha,rfl⟩:=hd;have:=hr j a ha;simp only[bm,ew];exact this
 · have fin : (s'.s.lookup t).bind (bT s'.o) = some r → ∀ w4, iO w.heap.size w' w4 → ∃ v, (results fn a'.tmps).run P w4 = .ok v w4 ∧ Below w.heap.size w w4 ∧ iN P w4 (fun b => b < w.heap.size) (fun b => b < w.heap.size) v r := fun hx w4 hd => by
     refine⟨a'.tmps.getD t undef,by simp[results,h4],bD.trans hs.wok.below.below hd.grown,hd.ret ?_⟩;cases hl:s'.s.lookup t with
     | none=>rw[hl] at hx;cases hx
     | some sv =>
       rw[hl] at hx;exact ei hs.wok (hs.slots t sv hl).2 hx
   cases e with
   | normal=>exact⟨.inl rfl,fin hq⟩
   | ret=>exact⟨.inr rfl,fin hq⟩
   | exit _=>exact hq.elim
   | goto _=>exact hq.elim
   | panic _=>exact hq.elim
   | outgrown=>exact hq.elim
end
def Mu (f1 f2:FuncId)(v:Value)(vs:List Value):Prop:=∃p q,vs=[p,q]∧v=.tuple #[.func (.func f1) #[] #[p],.func (.func f2) #[] #[q]]
def Mv (P:Program)(f:FuncId)(ds:List AV)(e:TypeId)(cs:List AV)(f1 f2:FuncId):Prop :=
 cq P f∧∀(w:World)(vs:List Value),vs.length=ds.length→(∀(j:Nat) d,ds[j]?=some d→bL w (fun _=>False) (vs.getD j undef) d) →
   Calls P f vs.toArray w fun q w'=>∃(b:Nat)(vals:List Value),q=.returned (.tuple #[.func (.func f1) #[] #[.pointer (some ⟨b,0,none⟩)],.func (.func f2) #[] #[.pointer (some ⟨b,0,none⟩)]])∧Below w.heap.size w w'∧w.heap.size≤b ∧
     w'.heap[b]?=some (.cells vals.toArray e (0,0))∧vals.length=cs.length∧∀(j:Nat) d,cs[j]?=some d→AV.leaf d=true∧bL w' (fun b'=>b'<w.heap.size∨b'=b) (vals.getD j undef) d
def Vw (t u:Nat)(e:TypeId)(cs:List AV)(f1 f2:FuncId):Exit→St→Prop
 | .normal,s|.ret,s=>∃id,s.s.lookup t=some (.fn f1 [.bx id])∧s.s.lookup u=some (.fn f2 [.bx id])∧s.o.lookup id=some (.box e (cs.map (.v .pl)))
 | _,_=>False
section
variable {P:Program} {w0:Fr}{M0:Nat→Prop}{s:St}{o:Oper}{t:Nat}{e:TypeId}{cs:List AV}{f1 f2:FuncId}
theorem Gy {w:World}{E:Env}{ob:List (Nat×Ob)}{f:FuncId}{id:Nat}{xs:List SV}(h:bm P M0 w E ob v (.fn f [.bx id]))(hl:ob.lookup id=some (.box e xs)):v=.func (.func f) #[] #[.pointer (some ⟨E.blk id,0,none⟩)]:=by
 obtain⟨vs,h1,h2,h3⟩:=h
 match vs,h2 with
 | [a], _ =>
   have:=h3 0 _ rfl e xs hl;rw[h1];simp only[List.getD_cons_zero] at this;rw[this]
theorem zH {n t u:Nat}{c:Code}(hf:Gd P f n t u c)(hn:ds.length≤n)
  (h:∀(w0:Fr)(M0:Nat→Prop),(∀b,M0 b→b<w0.w.heap.size)→aw P w0 M0 c (St.enter n .mx ds) (Vw t u e cs f1 f2)):Mv P f ds e cs f1 f2:=by
 refine⟨hf.bu,fun w vs hv hr=>?_⟩;have hc:=h (Fr.all w) (fun b=>b<w.heap.size) (fun b hb=>hb);rw[e7] at hc;obtain⟨fn,h1,h2,h3,h4,h5⟩:=hf;refine(dz h1 h2 h3 (R:=fun v E' s' w'=>gu P (Fr.all w) (fun b=>b<w.heap.size) E' s'.o w'∧∃id,s'.o.lookup id=some (.box e (cs.map (.v .pl)))∧v=.tuple #[.func (.func f1) #[] #[.pointer (some ⟨E'.blk id,0,none⟩)],.func (.func f2) #[] #[.pointer (some ⟨E'.blk id,0,none⟩)]]) (by simpa using hn) vs (by simpa using hv) jO (fun j d hd=>?_) hc (fun q s' a' w' E' hq hs=>?_)).mono fun q w' ⟨v,E',s',he,hw,id,hl,hv⟩=>?_
 ·rw[aaI,aaH] at hd;obtain⟨a,ha,rfl⟩:=hd;have:=hr j a ha;simp only[bm,ew];exact this
 ·have fin:(∃id,s'.s.lookup t=some (.fn f1 [.bx id])∧s'.s.lookup u=some (.fn f2 [.bx id])∧s'.o.lookup id=some (.box e (cs.map (.v .pl))))→∃v,(results fn a'.tmps).run P w'=.ok v w'∧gu P (Fr.all w) (fun b=>b<w.heap.size) E' s'.o w'∧∃id,s'.o.lookup id=some (.box e (cs.map (.v .pl)))∧v=.tuple #[.func (.func f1) #[] #[.pointer (some ⟨E'.blk id,0,none⟩)],.func (.func f2) #[] #[.pointer (some ⟨E'.blk id,0,none⟩)]]:=fun⟨id,q1,q2,q3⟩ =>
   ⟨.tuple #[a'.tmps.getD t undef,a'.tmps.getD u undef],by simp[results,h4],hs.wok,id,q3,by rw[Gy (hs.slots t _ q1).2 q3,Gy (hs.slots u _ q2).2 q3]⟩
  cases q with
  | normal=>exact⟨.inl rfl,fin hq⟩
  | ret=>exact⟨.inr rfl,fin hq⟩
  | exit _=>exact hq.elim
  | goto _=>exact hq.elim
  | panic _=>exact hq.elim
  | outgrown=>exact hq.elim
 ·obtain⟨vals,g1,g2,g3,g4⟩:=hw.objs id _ hl;refine⟨E'.blk id,vals,by rw[he,hv],hw.below.below,acS g2.2,g1,by simpa using g3,fun j d hd=>?_⟩;obtain⟨k1,k2,k3⟩:=g4 j (.v .pl d) (by rw[aaI,hd];rfl);exact⟨k1,bL.cm k3 fun b hb=>hb.imp (fun q=>q) fun q=>⟨id,_,hl,q.symm⟩⟩
theorem xG {cx:Operand} {args:Array Operand}  {c:fX} {f:FuncId} {caps:List AV}
   (ho:o.op=.call { callee:=.value cx,args:=args,argTypes:=ats })(hd:o.dst=some t)(hn:Nat.blt t s.n=true)(hpt:Nat.blt t 1000000=true)(hnd:Nodup s.s=true)(hc:s.ev cx=some (.v c (.clo f caps)))(ha:jl s.ev s.o args.toList=some ds)(h:Mv P f (ds++caps) e cs f1 f2)
   (ae:∀b,M0 b→b<w0.w.heap.size):Step P w0 M0 o s ((s.cK true t (.box e (cs.map (.v .pl)))).put t (.hid (Mu f1 f2) [.bx t,.bx t])):=by
 rintro a w Q ⟨E,hs⟩;have hcv:=hs.ev hc;simp only[bm] at hcv;generalize hq:a.eval cx=q at hcv;cases hcv with
 | clo _ vs _ hnc hr =>
   have hv:=l5 hs.wok (fun x e hx=>hs.ev hx) _ _ ha;unfold Oper.wp;rw[fG ho hq h.1];simp only[Oper.upon];have hall:=h.2 w (args.toList.map a.eval++vs) (by simp[hv.1,hnc]) (fun j d hd=>?_)
   · have e1 : (args.toList.map a.eval ++ vs).toArray = args.map a.eval ++ vs.toArray := by apply acw ; simp
     rw[e1] at hall;refine hall.mono fun q w' ⟨b,vals,he,hb,hge,g1,g2,g3⟩=>?_
     subst he;simp only[hd];have ht:t<1000000:=acO (aaz hpt);obtain⟨E',f1',f2',f3',f4'⟩:∃E':Env,E'.blk t=b∧(∀i,i≠t→E'.blk i=E.blk i)∧E'.cur=E.cur∧E'.sub=E.sub :=
       ⟨{ E with blk:=fun i=>if i=t then b else E.blk i },if_pos rfl,fun i hi=>if_neg hi,rfl,rfl⟩
     refine⟨E',ba.put ?_ (by simpa[St.cK] using hn) ⟨[.pointer (some ⟨b,0,none⟩),.pointer (some ⟨b,0,none⟩)],⟨_,_,rfl,rfl⟩,rfl,fun j c hc=>?_⟩⟩
     · refine hs.cK true (fun q => by cases q) hnd ae (fun i hi => ⟨by rw [f3'], f2' i hi⟩) (.inl (BU ht)) none (dH hb) (fun _ => hb.drawn trivial) (fun g hg => by cases hg) (fun b' hb' => .inr ?_) (fun rep sv => ?_) (fun i hi => by rw [f4'])
       · simp only[bG,f1'] at hb';omega
       · refine ⟨vals, by rw [f1']; exact g1, by rw [f1']; exact hs.wok.ia ae hge, by simpa using g2, fun j d hd => ?_⟩
         rw[aaI,aaH] at hd;obtain⟨d0,hd0,rfl⟩:=hd;obtain⟨k1,k2⟩:=g3 j d0 hd0;refine⟨k1,k2.one k1,bL.cm k2 fun b' hb'=>?_⟩;rcases hb' with hb'|⟨i,ob,q1,q2⟩
         · have:=ae b' hb';have:=hs.wok.below.size;exact .inl adh
         · by_cases hi : i = t
           · subst hi
             rw[aC,if_pos rfl] at q1;simp only[aaB] at q1;subst q1;exact .inr (by simp only[bG,f1'] at q2;exact q2.symm)
           · rw [aC, if_neg hi, cC, aaH] at q1
             obtain⟨ob0,q3,rfl⟩:=q1;refine .inl (hs.wok.bH ⟨i,ob0,q3,?_⟩).2;have q2:=iD.1 q2;cases ob0<;>simp only[bG,f2' i hi,f3',f4'] at q2 ⊢<;>exact q2
     · have : c = .bx t ∧ j < 2 := by
         match j,hc with
         | 0,hc=>simp at hc;exact⟨hc.symm,by decide⟩
         | 1,hc=>simp at hc;exact⟨hc.symm,by decide⟩
         | j+2,hc=>simp at hc
       obtain⟨rfl,hj⟩:=this;intro e' cs' _
       match j,hj with
       | 0,_=>simp[f1']
       | 1,_=>simp[f1']
   · rw [aax]
     rcases aa9 j ds.length with hlt|hge
     · rw [aa8 hlt] at hd
       have:=hv.2 j d hd;rw[aa8 (by simp[hv.1];omega)];rwa [aax] at this
     · rw [aa6 hge] at hd
       have:=hr _ d hd;rw[aa6 (by simp[hv.1];omega)];simp only[aaA,hv.1];rw[aax] at this;exact this.cm (fun b hb=>hb.elim)
variable {ρ:Operand→Option SV}{ob:List (Nat×Ob)}{x:Operand}{c1 c2:qw}
theorem Aw (ho:o.op=.extract x 0)(hx:ρ x=some (.hid (Mu f1 f2) [c1,c2])):Pure P w0 M0 o ρ ob (.fn f1 [c1]) :=
 aJ fun E w ev hw h=>by
  obtain⟨vs,⟨p,q,rfl,hv⟩,h2,h3⟩:=h x _ hx;refine⟨.func (.func f1) #[] #[p],w,by simp[execOp,ho,hv,Instr.extract],.refl _ _,[p],rfl,rfl,fun j c hc=>?_⟩;cases j with
  | zero=>exact h3 0 c (by simpa using hc)
  | succ j=>simp at hc
theorem Ax (ho:o.op=.extract x 1)(hx:ρ x=some (.hid (Mu f1 f2) [c1,c2])):Pure P w0 M0 o ρ ob (.fn f2 [c2]) :=
 aJ fun E w ev hw h=>by
  obtain⟨vs,⟨p,q,rfl,hv⟩,h2,h3⟩:=h x _ hx;refine⟨.func (.func f2) #[] #[q],w,by simp[execOp,ho,hv,Instr.extract],.refl _ _,[q],rfl,rfl,fun j c hc=>?_⟩;cases j with
  | zero=>exact h3 1 c (by simpa using hc)
  | succ j=>simp at hc
end
section
variable {P:Program} {w0:Fr}{M0:Nat→Prop}{Q:Exit→St→Prop}{k:List Fm}{s:St}
theorem D1 {α:Type}:∀{l:List α}{j:Nat}{x:α},l[j]?=some x→l=l.take j++x :: l.drop (j+1)
 | [],j,x,h=>by simp at h
 | y :: l,0,x,h=>by simp at h;subst h;rfl
 | y :: l, j + 1, x, h => by
   have:=D1 (l:=l) (j:=j) (x:=x) (by simpa using h);show y :: l=y :: (l.take j++x :: l.drop (j+1));rw[←this]
theorem yG {ops:Array Oper}{id:Nat}{o:Oper}(j:Nat)(hmd:w0.md=.plain)(ho:ops.toList[j]?=some o)
  (h:At P w0 M0 (fun _ s1=>∃s2,Mr P w0 M0 o s1 s2∧At P w0 M0 Q k (.ops ops (ops.toList.drop (j+1))) s2) [] (.ops ops (ops.toList.take j)) s):At P w0 M0 Q k (.code (.region id ops false)) s :=
 B7 hmd _ _ o (D1 ho) h
theorem YD {g:Operand}{ps:Array Tmp}{gf:FuncId}{csI capsC:List SV}(ρ:List (Nat×Nat))(oc0 ocN:List (Nat×Ob))(ts:List Nat)(cps:List qw)(hmd:w0.md=.marks)(ae:∀b,M0 b→b<w0.w.heap.size)
  (hit:∀l r,r.state=.ready→r.pending=none→r.tmps.size=s.n→r.params=ps→r.assign=asg→r.body=bod→Au P gf l r (.hid (yR l r ts) cps :: capsC) oc0 ocN)
  (hg:s.ev g=some dc)(hcal:nF dc=some (gf,csI))(hts:uu s.s ts=some svs)(hci:lu s ρ (cY ρ oc0) csI capsC)(hcaps:lu s ρ (cY ρ oc0) svs (cps.map qw.sv))(hob:oA s ρ oc0)
  (hnd:Nodup s.s=true)(hinj:ju (cY ρ oc0)=true)(hsame:oc0.map (fun p=>(p.1,p.2.kind))=ocN.map (fun p=>(p.1,p.2.kind)))
  (hbig:oc0.all (fun p=>Nat.beq p.2.kind 0||Nat.ble 1000000 p.1)=true)(hpl:ocN.all (fun p=>p.2.plain (ocN.map (·.1)))=true)
  (hq:At P w0 M0 Q k (.done .normal) (s.after ρ ocN)):At P w0 M0 Q k (.code (.rangeFunc g ps asg bod)) s :=
 xE ρ oc0 ocN ts cps svs hmd hnd hg hcal hci hts hcaps hit hob hinj hsame hbig hpl ae hq
theorem cV {o':List (Nat×Ob)}{s:St}(ho:wc s o1)(e:o1=o'):Vu o' .normal s:=by subst e;exact ho.out
theorem gA {t u id:Nat}{e:TypeId}{cs:List AV}{cs1:List SV}{f1 f2:FuncId}{s:St}(h1:s.s.lookup t=some (.fn f1 [.bx id]))(h2:s.s.lookup u=some (.fn f2 [.bx id]))(h3:s.o.lookup id=some (.box e cs1))(hc:cs1=cs.map (.v .pl)):Vw t u e cs f1 f2 .ret s:=by subst hc;exact⟨id,h1,h2,h3⟩
end
section
variable {P:Program}
theorem pN {n t u v:Nat}{c:Code}(hf:R4 P f n t u v c){r r' r'':AV}(hn:ds.length≤n)
   (h:∀(w0:Fr)(M0:Nat→Prop),(∀b,M0 b→b<w0.w.heap.size)→aw P w0 M0 c (St.enter n .pl ds) (Mj t u v r r' r'')):aV P f ds (.p (.tup [r,r',r''])):=by
 refine⟨hf.bu,fun w M vs hM hv hr=>?_⟩;have h0:=h (Fr.all w) M hM;rw[e7] at h0;obtain⟨fn,h1,h2,h3,h4,h5⟩:=hf;refine(dz h1 h2 h3 (R:=fun v E' s' w'=>Below w.heap.size w w'∧iN P w' M (fun b=>b<w.heap.size) v (.p (.tup [r,r',r'']))) (by simpa using hn) vs (by simpa using hv) jO (fun j d hd=>?_) h0 (fun e s' a' w' E' hq hs=>?_)).mono fun e w' ⟨v,E',s',he,hR⟩=>⟨v,he,hR⟩
 · rw [aaI, aaH] at hd
   obtain⟨a,ha,rfl⟩:=hd;have:=hr j a ha;simp only[bm,ew];exact this.cm (fun b hb=>Or.elim hb id (fun h=>False.elim h))
 · have fin : ((∃ q, (s'.s.lookup t).bind (bT s'.o) = some q ∧ q.data = r) ∧ (∃ q, (s'.s.lookup u).bind (bT s'.o) = some q ∧ q.data = r') ∧ (∃ q, (s'.s.lookup v).bind (bT s'.o) = some q ∧ q.data = r'')) →
       ∃v,(results fn a'.tmps).run P w'=.ok v w'∧Below w.heap.size w w'∧iN P w' M (fun b=>b<w.heap.size) v (.p (.tup [r,r',r''])):=by
     rintro⟨⟨q1,hq1,hd1⟩,⟨q2,hq2,hd2⟩,⟨q3,hq3,hd3⟩⟩;have one:∀x q,(s'.s.lookup x).bind (bT s'.o)=some q→bL w' M (a'.tmps.getD x undef) q.data:=by
       intro x q hx;cases hl:s'.s.lookup x with
       | none=>rw[hl] at hx;cases hx
       | some sv =>
         rw[hl] at hx;exact(ei hs.wok (hs.slots x sv hl).2 hx).rep hM
     have r1:=one t q1 hq1;have r2:=one u q2 hq2;have r3:=one v q3 hq3;rw[hd1] at r1;rw[hd2] at r2;rw[hd3] at r3;refine⟨.tuple #[a'.tmps.getD t undef,a'.tmps.getD u undef,a'.tmps.getD v undef],by simp[results,h4],hs.wok.below.below,.tup [a'.tmps.getD t undef,a'.tmps.getD u undef,a'.tmps.getD v undef] [r,r',r''] J (fun j d hd=>by
       match j,hd with
       | 0,hd=>simp at hd;subst hd;exact r1
       | 1,hd=>simp at hd;subst hd;exact r2
       | 2,hd=>simp at hd;subst hd;exact r3
       | j+3,hd=>simp at hd)⟩
   cases e with
   | normal=>exact⟨.inl rfl,fin hq⟩
   | ret=>exact⟨.inr rfl,fin hq⟩
   | exit _=>exact hq.elim
   | goto _=>exact hq.elim
   | panic _=>exact hq.elim
   | outgrown=>exact hq.elim
end
def Qa (v:Value)(vs:List Value):Prop:=v=.tuple vs.toArray
def xH:SV→Option AV
 | .v .pl (.sc (.slice none 0 0))=>some (.sl [])
 | .v .pl d=>some d
 | .v _ (.sc u)=>some (.sc u)
 | _=>none
def R7 (o:List (Nat×Ob))(d:SV)(e:TypeId)(xs:List AV):Prop:=(∃id,d=.own id∧o.lookup id=some (.arr e xs))∨(d=.v .pl (.sc (.slice none 0 0))∧xs=[])
def Mw (P:Program)(f:FuncId)(ds:List AV)(r:AV)(e:TypeId)(xs:List AV)(r':AV):Prop :=
 cq P f∧∀(w:World)(M:Nat→Prop)(vs:List Value),(∀b,M b→b<w.heap.size)→vs.length=ds.length→(∀(j:Nat) d,ds[j]?=some d→bL w M (vs.getD j undef) d) →
   Calls P f vs.toArray w fun q w'=>∃a b c,q=.returned (.tuple #[a,b,c])∧Below w.heap.size w w'∧bL w' (fun k=>M k∨b.ownBlock=some k) a r∧iN P w' M (fun k=>k<w.heap.size) b (.fresh e xs)∧bL w' (fun k=>M k∨b.ownBlock=some k) c r'
def Tu (t u v:Nat)(r:AV)(e:TypeId)(xs:List AV)(r':AV):Exit→St→Prop
 | .normal,s|.ret,s=>(s.s.lookup t).bind xH=some r∧(∃d,s.s.lookup u=some d∧R7 s.o d e xs)∧(s.s.lookup v).bind xH=some r'
 | _,_=>False
section
variable {P:Program} {w0:Fr}{M0:Nat→Prop}
theorem Qb {E:Env}{ob:List (Nat×Ob)}{w:World}{s:SV}{r:AV}(h:bm P M0 w E ob v s)(hr:xH s=some r):bL w (cI M0 (owned E ob) .pl) v r:=by
 unfold xH at hr;split at hr
 ·simp only[aaB] at hr;subst hr;cases h;exact .sl none 0 0 [] 0 (fun _=>undef) J (aaD _) (by simp) (fun h=>absurd h adh) (fun j d hd=>by simp[flat] at hd) (fun j d hd=>by simp[flat] at hd)
 ·simp only[aaB] at hr;subst hr;exact h
 ·simp only[aaB] at hr;subst hr;cases h;exact .sc _ ‹_›
 ·cases hr
theorem JZ {w:World}{K:Nat→Prop}{e:TypeId}:iN P w M K (.slice none 0 0) (.fresh e []) :=
 ⟨[],⟨⟨by simp,.inl ⟨rfl,rfl⟩⟩,(fun b hb=>by cases hb)⟩,(fun x hx=>by cases hx),fun j d hd=>by simp[flat] at hd⟩
theorem zI {n t u v:Nat} {c:Code} (hf:R4 P f n t u v c)  {r r':AV} {e:TypeId} {xs:List AV} (hn:ds.length≤n)
   (h:∀(w0:Fr)(M0:Nat→Prop),(∀b,M0 b→b<w0.w.heap.size)→aw P w0 M0 c (St.enter n .pl ds) (Tu t u v r e xs r')):Mw P f ds r e xs r':=by
 refine⟨hf.bu,fun w M vs hM hv hr=>?_⟩;have h0:=h (Fr.all w) M hM;rw[e7] at h0;obtain⟨fn,h1,h2,h3,h4,h5⟩:=hf;refine(dz h1 h2 h3 (R:=fun z E' s' w'=>∃a b c,z=.tuple #[a,b,c]∧Below w.heap.size w w'∧bL w' (fun k=>M k∨b.ownBlock=some k) a r∧iN P w' M (fun k=>k<w.heap.size) b (.fresh e xs)∧bL w' (fun k=>M k∨b.ownBlock=some k) c r') (by simpa using hn) vs (by simpa using hv) jO (fun j d hd=>?_) h0 (fun e s' a' w' E' hq hs=>?_)).mono fun q w' ⟨z,E',s',he,a,b,c,hz,hR⟩=>⟨a,b,c,by rw[he,hz],hR⟩
 · rw [aaI, aaH] at hd
   obtain⟨a,ha,rfl⟩:=hd;have:=hr j a ha;simp only[bm,ew];exact this.cm (fun b hb=>Or.elim hb id (fun h=>False.elim h))
 · rename_i e0
   have fin:((s'.s.lookup t).bind xH=some r∧(∃d,s'.s.lookup u=some d∧R7 s'.o d e0 xs)∧(s'.s.lookup v).bind xH=some r') →
       ∃z,(results fn a'.tmps).run P w'=.ok z w'∧∃a b c,z=.tuple #[a,b,c]∧Below w.heap.size w w'∧bL w' (fun k=>M k∨b.ownBlock=some k) a r∧iN P w' M (fun k=>k<w.heap.size) b (.fresh e0 xs)∧bL w' (fun k=>M k∨b.ownBlock=some k) c r':=by
     rintro⟨q1,⟨d,q2,q3⟩,q4⟩;have one:∀x q,(s'.s.lookup x).bind xH=some q→bL w' (cI M (owned E' s'.o) .pl) (a'.tmps.getD x undef) q:=by
       intro x q hx;cases hl:s'.s.lookup x with
       | none=>rw[hl] at hx;cases hx
       | some sv =>
         rw[hl] at hx;exact Qb (hs.slots x sv hl).2 hx
     have r1:=one t r q1;have r2:=one v r' q4;have hm:=(hs.slots u d q2).2;refine⟨.tuple #[a'.tmps.getD t undef,a'.tmps.getD u undef,a'.tmps.getD v undef],by simp[results,h4],_,_,_,rfl,hs.wok.below.below,?_,?_,?_⟩
     · refine r1.cm fun k hk => ?_
       rcases hk with hk|hk
       · exact .inl hk
       · rcases q3 with ⟨id, rfl, hl⟩ | ⟨rfl, rfl⟩
         · rw [hm e0 xs hl] at hk
           exact .inr ⟨id,_,hl,hk⟩
         · generalize a'.tmps.getD u undef = z at hm hk
           cases hm;cases hk
     · rcases q3 with ⟨id, rfl, hl⟩ | ⟨rfl, rfl⟩
       · have := ei (P := P) (w0 := (Fr.all w).plain) (r := .fresh e0 xs) hs.wok hm (by simp only [bT, hl])
         exact this
       · generalize a'.tmps.getD u undef = z at hm
         cases hm;exact JZ
     · refine r2.cm fun k hk => ?_
       rcases hk with hk|hk
       · exact .inl hk
       · rcases q3 with ⟨id, rfl, hl⟩ | ⟨rfl, rfl⟩
         · rw [hm e0 xs hl] at hk
           exact .inr ⟨id,_,hl,hk⟩
         · generalize a'.tmps.getD u undef = z at hm hk
           cases hm;cases hk
   cases e with
   | normal=>exact⟨.inl rfl,fin hq⟩
   | ret=>exact⟨.inr rfl,fin hq⟩
   | exit _=>exact hq.elim
   | goto _=>exact hq.elim
   | panic _=>exact hq.elim
   | outgrown=>exact hq.elim
theorem B9 {t u v id:Nat}{r r' q q':AV}{e:TypeId}{xs xs':List AV}{s:St}(h:(s.s.lookup t).bind xH=some q)(h1:s.s.lookup u=some (.own id))(h2:s.o.lookup id=some (.arr e xs'))(h3:(s.s.lookup v).bind xH=some q')(he:q=r∧xs'=xs∧q'=r'):Tu t u v r e xs r' .ret s:=by obtain⟨rfl,rfl,rfl⟩:=he;exact⟨h,⟨_,h1,.inl ⟨_,rfl,h2⟩⟩,h3⟩
theorem tc {t u v:Nat}{r r' q q':AV}{e:TypeId}{xs:List AV}{s:St}(h:(s.s.lookup t).bind xH=some q)(h1:s.s.lookup u=some (.v .pl (.sc (.slice none 0 0))))(h3:(s.s.lookup v).bind xH=some q')(he:q=r∧xs=[]∧q'=r'):Tu t u v r e xs r' .ret s:=by obtain⟨rfl,rfl,rfl⟩:=he;exact⟨h,⟨_,h1,.inr ⟨rfl,rfl⟩⟩,h3⟩
theorem J0 {E:Env}{s:St}{t b:Nat}{e:TypeId}{xs:List AV}{kill:Bool}(h:owned { E with cur:=fun i=>if i=t then v else E.cur i } (s.cK kill t (.arr e xs)).o b):owned E s.o b∨v.ownBlock=some b:=by
 obtain⟨i,ob,h3,h4⟩:=h;by_cases hi:i=t
 ·subst hi;rw[show(s.cK kill i (.arr e xs)).o.lookup i=_ from by show(ins i _ _).lookup i=_;rw[aC,if_pos rfl]] at h3;simp only[aaB] at h3;subst h3;simp only[bG,if_true] at h4;exact .inr h4
 ·rw[show(s.cK kill t (.arr e xs)).o.lookup i=_ from by show(ins t _ _).lookup i=_;rw[aC,if_neg hi,cC],aaH] at h3;obtain⟨ob0,h5,rfl⟩:=h3;refine .inl ⟨i,ob0,h5,?_⟩;have h4:=iD.1 h4;cases ob0<;>simp only[bG,hi,if_false] at h4 ⊢<;>exact h4
variable {s:St} {o:Oper}{t:Nat}{e:TypeId}{xs:List AV}{r r':AV}
theorem xI {cx:Operand}{args:Array Operand}{c:fX}{f:FuncId}
   (ho:o.op=.call { callee:=.value cx,args:=args,argTypes:=ats })(hd:o.dst=some t)(hn:Nat.blt t s.n=true)(hnd:Nodup s.s=true)(hc:s.ev cx=some (.v c (.clo f [])))(ha:iW s.ev s.o args.toList=some (.pl,ds))(h:Mw P f ds r e xs r')
   (ae:∀b,M0 b→b<w0.w.heap.size):Step P w0 M0 o s ((s.cK true t (.arr e xs)).put t (.hid Qa [.pl r,.ow t,.pl r'])):=by
 rintro a w Q ⟨E,hs⟩;have hcv:=hs.ev hc;simp only[bm] at hcv;generalize hq:a.eval cx=q at hcv;cases hcv with
 | clo _ vs _ hnc hr =>
   obtain⟨g1,g2⟩:=mP hs.wok (fun x e hx=>hs.ev hx) _ _ ds ha;have hvs:vs=[]:=aa4 (by simpa using hnc);subst hvs;unfold Oper.wp;rw[fG ho hq h.1];simp only[Oper.upon];have P3:∀b,cI M0 (owned E s.o) .pl b→b<w.heap.size:=by
     intro b hb;rcases hb with hb|hb
     · have:=ae b hb;have:=hs.wok.below.size;omega
     · exact(hs.wok.bH hb).2
   have hall:=h.2 w (cI M0 (owned E s.o) .pl) (args.toList.map a.eval) P3 (by simpa using g1) g2;have e1:(args.toList.map a.eval).toArray=args.map a.eval++#[]:=by apply acw ;simp
   rw[e1] at hall;refine hall.mono fun q w' ⟨z1,z2,z3,he,hb,ra,rb,rc⟩=>?_
   subst he;obtain⟨vals,h1,h2,h3⟩:=rb;simp only[hd];have hcl:∀k,cI M0 (owned { E with cur:=fun i=>if i=t then z2 else E.cur i } (s.cK true t (.arr e xs)).o) .pl k→cI M0 (owned E s.o) .pl k∨z2.ownBlock=some k:=fun k hk=>by
     rcases hk with hk|hk
     · exact .inl (.inl hk)
     · exact(J0 hk).imp .inr id
   refine⟨{ E with cur:=fun i=>if i=t then z2 else E.cur i },ba.put ?_ (by simpa[St.cK] using hn) ⟨[z1,z2,z3],rfl,rfl,fun j c hc=>?_⟩⟩
   · refine hs.cK true (fun h => by cases h) hnd ae (fun i hi => ⟨by simp [hi], rfl⟩) (.inr J) none (dH hb) (fun _ => hb.drawn trivial) (fun g hg => by cases hg) (fun b hb => .inr ?_) (fun rep _ => ?_)
     · simp only [bG, if_true] at hb
       exact acS (h1.2 b hb)
     · refine ⟨vals, ⟨by simpa using h1.1, fun b hb => hs.wok.ia ae (acS (h1.2 b (by simpa using hb)))⟩, h2, fun j d hd => ⟨(h3 j d hd).1, ?_⟩⟩
       exact(h3 j d hd).2.cm hcl
   · match j, hc with
     | 0,hc=>simp only[abf,aaB] at hc;subst hc;exact ra.cm hcl
     | 1,hc=>simp only[abY,abf,aaB] at hc;subst hc;intro e' xs' _;simp
     | 2,hc=>simp only[abY,abf,aaB] at hc;subst hc;exact rc.cm hcl
     | j+3,hc=>simp at hc
variable {ρ:Operand→Option SV}{ob:List (Nat×Ob)}{x:Operand}
theorem Ay {caps:List qw}{c:qw}(ho:o.op=.extract x i)(hx:ρ x=some (.hid Qa caps))(hc:caps[i]?=some c):Pure P w0 M0 o ρ ob c.sv :=
 aJ fun E w ev hw h=>by
  obtain⟨vs,hv,h2,h3⟩:=h x _ hx;have hlt:i<vs.length:=by rw[h2];exact(aa0.1 hc).1
  have h4:=h3 i c hc;rw[aax,aaF hlt] at h4;refine⟨vs[i],w,by simp[execOp,ho,show ev x=_ from hv,Instr.extract,hlt],.refl _ _,?_⟩;cases c with
  | bx id=>exact h4
  | pl d=>exact h4
  | ow id=>exact h4
  | om id=>exact h4
end
def Mx (P:Program)(f:FuncId)(e:TypeId)(fc:FuncId):Prop :=
 cq P f∧∀(w:World)(v:Value),v.oneCell'=true→Calls P f #[v] w fun q w'=>∃b,q=.returned (.func (.func fc) #[] #[.pointer (some ⟨b,0,none⟩)])∧Below w.heap.size w w'∧w.heap.size≤b∧w'.heap[b]?=some (.cells #[v] e (0,0))
def Vx (t:Nat)(e:TypeId)(v:Value)(fc:FuncId):Exit→St→Prop
 | .normal,s|.ret,s=>∃id,s.s.lookup t=some (.fn fc [.bx id])∧s.o.lookup id=some (.box e [.v .mx (.sc v)])
 | _,_=>False
section
variable {P:Program} {w0:Fr}{M0:Nat→Prop}{s:St}{o:Oper}{t:Nat}{e:TypeId}{fc:FuncId}
theorem zJ {n t:Nat}{c:Code}(hf:H5 P f n t c)(hn:1≤n)
   (h:∀(v:Value)(w0:Fr)(M0:Nat→Prop),(∀b,M0 b→b<w0.w.heap.size)→aw P w0 M0 c (St.enter n .mx [.sc v]) (Vx t e v fc)):Mx P f e fc:=by
 refine⟨hf.bu,fun w v hv=>?_⟩;have hc:=h v (Fr.all w) (fun b=>b<w.heap.size) (fun b hb=>hb);rw[e7] at hc;obtain⟨fn,h1,h2,h3,h4,h5⟩:=hf;refine(dz h1 h2 h3 (R:=fun z E' s' w'=>gu P (Fr.all w) (fun b=>b<w.heap.size) E' s'.o w'∧∃id,s'.o.lookup id=some (.box e [.v .mx (.sc v)])∧z=.func (.func fc) #[] #[.pointer (some ⟨E'.blk id,0,none⟩)]) (by simpa using hn) [v] (by simp) jO (fun j d hd=>?_) hc (fun q s' a' w' E' hq hs=>?_)).mono fun q w' ⟨z,E',s',he,hw,id,hl,hz⟩=>?_
 · cases j with
   | zero =>
     simp only[abx,abW,abf,aaB] at hd;subst hd;exact .sc v hv
   | succ j=>simp at hd
 · have fin : (∃ id, s'.s.lookup t = some (.fn fc [.bx id]) ∧ s'.o.lookup id = some (.box e [.v .mx (.sc v)])) → ∃ z, (results fn a'.tmps).run P w' = .ok z w' ∧ gu P (Fr.all w) (fun b => b < w.heap.size) E' s'.o w' ∧ ∃ id, s'.o.lookup id = some (.box e [.v .mx (.sc v)]) ∧ z = .func (.func fc) #[] #[.pointer (some ⟨E'.blk id, 0, none⟩)] := fun ⟨id, q1, q3⟩ =>
     ⟨a'.tmps.getD t undef,by simp[results,h4],hs.wok,id,q3,Gy (hs.slots t _ q1).2 q3⟩
   cases q with
   | normal=>exact⟨.inl rfl,fin hq⟩
   | ret=>exact⟨.inr rfl,fin hq⟩
   | exit _=>exact hq.elim
   | goto _=>exact hq.elim
   | panic _=>exact hq.elim
   | outgrown=>exact hq.elim
 · obtain ⟨vals, g1, g2, g3, g4⟩ := hw.objs id _ hl
   have g5:bm P (fun b=>b<w.heap.size) w' E' s'.o (vals.getD 0 undef) (.v .mx (.sc v)):=(g4 0 _ rfl).2.2
   match vals,g3,g5 with
   | [a], _, g5 =>
     have:a=v:=by
       simp only[List.getD_cons_zero,bm] at g5;cases g5;rfl
     subst this;exact⟨E'.blk id,by rw[he,hz],hw.below.below,acS g2.2,g1⟩
theorem My {id:Nat}(h:s.s.lookup t=some (.fn fc [.bx id]))(h':s.o.lookup id=some (.box e [.v .mx (.sc v)])):Vx t e v fc .ret s:=⟨id,h,h'⟩
theorem D2 {y:Operand}{j:Nat}{T:TypeId}{cs:List SV}(hy:s.ev y=some (.pbox j 0))(hj:s.o.lookup j=some (.box T cs)):∀(E:Env)(a:Act)(w:World),ba P w0 M0 E s a w→(a.eval y).oneCell'=true:=fun E a w hs=>by rw[hs.ev hy T cs hj];rfl
theorem Gz {cx y:Operand}{c:fX}{f:FuncId}{d0:SV}
   (ho:o.op=.call { callee:=.value cx,args:=#[y],argTypes:=ats })(hd:o.dst=some t)(hn:Nat.blt t s.n=true)(hpt:Nat.blt t 1000000=true)(hnd:Nodup s.s=true)(hc:s.ev cx=some (.v c (.clo f [])))(hy:s.ev y=some d0)(hst:d0.stays true t=true)(hlf:d0.leaf=true)
   (hone:∀(E:Env)(a:Act)(w:World),ba P w0 M0 E s a w→(a.eval y).oneCell'=true)(h:Mx P f e fc)
   (ae:∀b,M0 b→b<w0.w.heap.size):Step P w0 M0 o s ((s.cK true t (.box e [d0])).put t (.fn fc [.bx t])):=by
 rintro a w Q ⟨E,hs⟩;have hcv:=hs.ev hc;simp only[bm] at hcv;generalize hq:a.eval cx=q at hcv;cases hcv with
 | clo _ vs _ hnc hr =>
   have hvs:vs=[]:=aa4 (by simpa using hnc);subst hvs;unfold Oper.wp;rw[fG ho hq h.1];simp only[Oper.upon];have hall:=h.2 w (a.eval y) (hone E a w hs);have e1:(#[a.eval y]:Array Value)=(#[y]:Array Operand).map a.eval++([]:List Value).toArray:=by simp
   rw[e1] at hall;refine hall.mono fun q w' ⟨b,he,hb,hge,g1⟩=>?_
   rw[←e1] at g1;subst he;simp only[hd];have ht:t<1000000:=acO (aaz hpt);obtain⟨E',f1',f2',f3',f4'⟩:∃E':Env,E'.blk t=b∧(∀i,i≠t→E'.blk i=E.blk i)∧E'.cur=E.cur∧E'.sub=E.sub :=
     ⟨{ E with blk:=fun i=>if i=t then b else E.blk i },if_pos rfl,fun i hi=>if_neg hi,rfl,rfl⟩
   refine⟨E',ba.put ?_ (by simpa[St.cK] using hn) ⟨[.pointer (some ⟨b,0,none⟩)],rfl,rfl,fun j c hc=>?_⟩⟩
   · refine hs.cK true (fun q => by cases q) hnd ae (fun i hi => ⟨by rw [f3'], f2' i hi⟩) (.inl (BU ht)) none (dH hb) (fun _ => hb.drawn trivial) (fun g hg => by cases hg) (fun b' hb' => .inr ?_) (fun rep sv => ?_) (fun i hi => by rw [f4'])
     · simp only[bG,f1'] at hb';omega
     · refine ⟨[a.eval y], by rw [f1']; exact g1, by rw [f1']; exact hs.wok.ia ae hge, rfl, fun j d hd => ?_⟩
       cases j with
       | zero =>
         simp only[abf,aaB] at hd;subst hd;exact⟨hlf,hone E a w hs,sv _ _ (hs.ev hy) hst⟩
       | succ j=>simp at hd
   · cases j with
     | zero =>
       simp only[abf,aaB] at hc;subst hc;intro e' cs' _;simp[f1']
     | succ j=>simp at hc
end
section
variable {P:Program} {w0:Fr}{M0:Nat→Prop}
def Qc (P : Program) (f : FuncId) (n t u : Nat) (T : TypeId) (k v : Nat) (c : Code) : Prop := ∃ fn, P.funcs[f]? = some fn ∧ fn.body = some c ∧ fn.ntmps = n ∧ fn.results = #[.tmp t, .cell u T, .tmp v] ∧ (fn.name == "runtime.NumGoroutine") = false ∧ bo P T = some true ∧ bX P T = some k
theorem Qc.bu {n t u v k:Nat}{T:TypeId}{c:Code}(h:Qc P f n t u T k v c):cq P f:=by obtain⟨fn,h1,h2,_,_,h5,_⟩:=h;exact⟨fn,h1,h5,by rw[h2];rfl⟩
theorem dA {n t k u:Nat}{T:TypeId}{c:Code}(hf:B2 P f n t T k u c){r r':AV}(hn:ds.length≤n)
   (h:∀(w0:Fr)(M0:Nat→Prop),(∀b,M0 b→b<w0.w.heap.size)→aw P w0 M0 c (St.enter n .pl ds) (R3 t k u r r')):aV P f ds (.p (.tup [r,r'])):=by
 refine⟨hf.bu,fun w M vs hM hv hr=>?_⟩;have h0:=h (Fr.all w) M hM;rw[e7] at h0;obtain⟨fn,h1,h2,h3,h4,h5,h6,h7⟩:=hf;refine(dz h1 h2 h3 (R:=fun v E' s' w'=>Below w.heap.size w w'∧iN P w' M (fun b=>b<w.heap.size) v (.p (.tup [r,r']))) (by simpa using hn) vs (by simpa using hv) jO (fun j d hd=>?_) h0 (fun e s' a' w' E' hq hs=>?_)).mono fun e w' ⟨v,E',s',he,hR⟩=>⟨v,he,hR⟩
 · rw [aaI, aaH] at hd
   obtain⟨a,ha,rfl⟩:=hd;have:=hr j a ha;exact this.cm (fun b hb=>Or.elim hb id (fun h=>by rw[ew] at h;exact h.elim))
 · have fin : ((∃ q, ((s'.s.lookup t).bind (r7 s'.o k)).bind (bT s'.o) = some q ∧ q.data = r) ∧ (∃ q, (s'.s.lookup u).bind (bT s'.o) = some q ∧ q.data = r')) →
       ∃v,(results fn a'.tmps).run P w'=.ok v w'∧Below w.heap.size w w'∧iN P w' M (fun b=>b<w.heap.size) v (.p (.tup [r,r'])):=by
     rintro⟨⟨q1,hb,hd1⟩,⟨q2,hu,hd2⟩⟩;rw[abE] at hb;obtain⟨sv',hb,hret⟩:=hb;rw[abE] at hb;obtain⟨sv,hl,hb⟩:=hb;rw[abE] at hu;obtain⟨su,hlu,hretu⟩:=hu;obtain⟨v,g1,g2⟩:=iG h6 h7 hs.wok (hs.slots t sv hl).2 hb;have r1:=(ei hs.wok g2 hret).rep (fun b hb=>hM b hb);have r2:=(ei hs.wok (hs.slots u su hlu).2 hretu).rep (fun b hb=>hM b hb);rw[hd1] at r1;rw[hd2] at r2;refine⟨.tuple #[v,a'.tmps.getD u undef],?_,hs.wok.below.below,.tup [v,a'.tmps.getD u undef] [r,r'] J (fun j d hd=>by
       match j,hd with
       | 0,hd=>simp at hd;subst hd;exact r1
       | 1,hd=>simp at hd;subst hd;exact r2
       | j+2,hd=>simp at hd)⟩
     have g1':((Sem.run P (asAddr (a'.tmps[t]?.getD undef)) w').andThen fun x w=>Sem.run P (loadVar T x) w)=.ok v w':=by simpa using g1
     simp[results,h4,Sem.run_bind];revert g1';cases Sem.run P (asAddr (a'.tmps[t]?.getD undef)) w' with
     | ok a w2=>intro g;simp only[Result.andThen_ok] at g ⊢;rw[g];rfl
     | _=>intro g;exact absurd g (by simp[Result.andThen])
   cases e with
   | normal=>exact⟨.inl rfl,fin hq⟩
   | ret=>exact⟨.inr rfl,fin hq⟩
   | exit _=>exact hq.elim
   | goto _=>exact hq.elim
   | panic _=>exact hq.elim
   | outgrown=>exact hq.elim
end
section
variable {P:Program} {w0:Fr}{M0:Nat→Prop}{ops:Array Oper}{Q:St→Prop}
theorem cS {id:Nat}(h:(G.all fun p=>p.2.stays false id)=true){u:Nat}{d:SV}(hl:G.lookup u=some d):d.stays false id=true:=aa5.1 h _ (dJ hl)
theorem cy {o:Oper}{T e:TypeId}{c:fX}{a0:AV}{cs:List SV}{n u v k id off:Nat}(ho:o.op=.store T (.tmp u) (.tmp v))(hd:o.dst=none)(hnd:Nodup X=true)(hk:bX P T=some k)(hu:X.lookup u=some (.pbox id off))(hl:o1.lookup id=some (.box e cs))(hv:X.lookup v=some (.v c a0))
  (hnt:jt a0=true)(hc:c≠.vw)(hn:(c8 (.v c a0)).length=k)(hle:Nat.ble (off+k) cs.length=true)(hs:∀t d,X.lookup t=some d→d.stays false id=true)(ho2:ins id (.box e (ry (de id cs) off (c8 (.v c a0)))) (ib false id o1)=o2)(ae:∀b,M0 b→b<w0.w.heap.size) :
  ∃s',Step P w0 M0 o ⟨n,X,o1⟩ s'∧fm P w0 M0 s' ⟨n,X,o2⟩ :=
 ⟨_,aW (s:=⟨n,X,o1⟩) ho hd hnd hk hu hl hv hnt hc hn hle ae,eW rfl ho2.symm fun t d h=>iH (fun e=>e.stays false id) X t d hnd h (hs t d h)⟩
end
section
variable {P:Program} {w0:Fr}{M0:Nat→Prop}
variable {o:Oper} {s:St}{x y:Operand}{T U e:TypeId}{t id:Nat}{xs:List AV}{l:List UInt8}
end
open Go
section
variable {P:Program} {w0:Fr}{M0:Nat→Prop}
end
section
variable {P:Program} {w0:Fr}{M0:Nat→Prop}{s:St}{o:Oper}{id t u j:Nat}{e r T:TypeId}{cs:List Cell}{xs:List AV}{x y:Operand}{E:Env}{a:Act}{w:World}
theorem Mz {f:Nat→Value}{b:Nat}{l:List AV}{ln:Option (Nat×eh)}:¬fY f b (l.map Cell.d) ln:=by rintro⟨j,c,h1,_,h2⟩;rw[aaI,aaH] at h1;obtain⟨d,_,rfl⟩:=h1;exact h2
theorem ba.Tv (h:ba P w0 M0 E s a w)(hnd:Nodup s.s=true)(ae:∀b,M0 b→b<w0.w.heap.size)(hl:s.o.lookup id=some (.arr e xs)) :
  ∃E':Env,E'.cur=E.cur∧E'.blk=E.blk∧ba P w0 M0 E' (s.cK true id (.nar e ((flat xs).map Cell.d) none)) a w:=by
 obtain⟨vals,h1,h2,h3⟩:=h.wok.objs id _ hl;have hfl:=bQ xs h2;obtain⟨E',f1,f2,f3,f4⟩:∃E':Env,E'.cur=E.cur∧E'.blk=E.blk∧(∀i,i≠id→E'.sub i=E.sub i)∧E'.sub id=fun j=>vals.getD j undef:=⟨{ E with sub:=fun i=>if i=id then fun j=>vals.getD j undef else E.sub i },rfl,rfl,fun i hi=>if_neg hi,if_pos rfl⟩
 refine⟨E',f1,f2,h.cK true (fun q=>by cases q) hnd ae (fun i hi=>⟨by rw[f1],by rw[f2]⟩) (.inr (by rw[f2])) none ⟨rfl,rfl,rfl,aaD _,fun _ _ _=>rfl⟩ (fun _=>aaD _) (fun g hg=>by cases hg) (fun b hb=>.inl ⟨_,hl,?_⟩) (fun rep sv=>?_) f3⟩
 ·rcases hb with hb|hb
  ·rw[f1] at hb;exact hb
  ·exact(Mz hb).elim
 ·refine⟨xs.length,vals,by rw[f1];exact h1,by rw[aaA,hfl],fun j hj=>by rw[f4],⟨fun j c hc _=>?_,fun i j ci cj b hi _ _ _ hb _=>?_,(fun j u hu=>by cases hu),(fun j u hu=>by cases hu)⟩,fun b hb=>(Mz hb).elim⟩
  ·rw[aaI,aaH] at hc;obtain⟨d,hd,rfl⟩:=hc;refine⟨(h3 j d hd).1,?_⟩;rw[f4];exact rep .pl _ _ (h3 j d hd).2 (by simp)
  ·rw[aaI,aaH] at hi;obtain⟨d,_,rfl⟩:=hi;exact hb.elim
theorem J1 (t:Nat)(ae:∀b,M0 b→b<w0.w.heap.size)(hnd:Nodup s.s=true)(ht:s.s.lookup t=some (.own id))(hl:s.o.lookup id=some (.arr e xs)):fm P w0 M0 s ((s.cK true id (.nar e ((flat xs).map Cell.d) none)).put t (.nst id)):=by
 rintro a w ⟨E,hs⟩;have h0:=hs.slots t _ ht;obtain⟨E',hc,_,h1⟩:=hs.Tv hnd ae hl;refine⟨E',h1.DO h0.1 ⟨fun e1 c1 l1 hh=>?_,fun k1 c1 l1 hh=>?_⟩⟩
 ·rw[hc];exact h0.2 e xs hl
 ·rw[show(s.cK true id (.nar e ((flat xs).map Cell.d) none)).o.lookup id=_ from by show(ins id _ _).lookup id=_;rw[aC,if_pos rfl]] at hh;cases hh
theorem GA {y:Code}{Q:Exit→St→Prop}(t:Nat)(ae:∀b,M0 b→b<w0.w.heap.size)(hnd:Nodup s.s=true)(ht:s.s.lookup t=some (.own id))(hl:s.o.lookup id=some (.arr e xs))(h:aw P w0 M0 y ((s.cK true id (.nar e ((flat xs).map Cell.d) none)).put t (.nst id)) Q):aw P w0 M0 y s Q :=
 aw.imp (J1 t ae hnd ht hl) h
theorem ba.borrow (h:ba P w0 M0 E s a w)(hnd:Nodup s.s=true)(ae:∀b,M0 b→b<w0.w.heap.size)(hl:s.o.lookup id=some (.nar e cs none))(hc:cs[j]?=some (.row r xs))(hu:u≠id) :
   ∃E':Env,E'.cur u=E.sub id j∧ba P w0 M0 E' { n:=s.n,s:=s.s.filter (fun p=>p.2.stays true u),o:=ins u (.arr r xs) (ins id (.nar e cs (some (j,.arr u))) (ib true u s.o)) } a w:=by
 obtain⟨n,vals,g1,g2,g3,g4,g5⟩:=h.wok.objs id _ hl;have hrow:=g4.ok j _ hc (by simp);obtain⟨E',e2,e1,e3,e4⟩:∃E':Env,E'.cur u=E.sub id j∧(∀i,i≠u→E'.cur i=E.cur i)∧E'.blk=E.blk∧E'.sub=E.sub:=⟨{ E with cur:=fun i=>if i=u then E.sub id j else E.cur i },if_pos rfl,fun i hi=>if_neg hi,rfl,rfl⟩;refine⟨E',e2,?_⟩;have hN:∀i q,(if i=u then some (some (Ob.arr r xs)) else if i=id then some (some (.nar e cs (some (j,.arr u)))) else none:Option (Option Ob))=some q→(i=u∧q=some (.arr r xs))∨(i=id∧q=some (.nar e cs (some (j,.arr u)))):=fun i q hq=>by
   by_cases h1:i=u
   · rw[if_pos h1] at hq;injection hq with hq;exact .inl ⟨h1,hq.symm⟩
   · rw [if_neg h1] at hq
     by_cases h2:i=id
     · rw[if_pos h2] at hq;injection hq with hq;exact .inr ⟨h2,hq.symm⟩
     · rw[if_neg h2] at hq;cases hq
 have hsubs:∀f b,fY f b cs (some (j,.arr u))→fY f b cs none:=fun f b ⟨i,c,q1,q2,q3⟩=>⟨i,c,q1,by simp,q3⟩
 refine ba.xo (E':=E') (SV.stays true u) (fun i=>if i=u then some (some (.arr r xs)) else if i=id then some (some (.nar e cs (some (j,.arr u)))) else none) _ (fun i=>?_) (fun d=>rfl) (fun i ob hq hx=>?_) (fun i hq=>?_) h hnd ae (fun i hq=>?_) (fun x hx=>by rw[e3]) none ⟨rfl,rfl,rfl,aaD _,fun _ _ _=>rfl⟩ (fun _=>aaD _) (fun g hg=>by cases hg) (fun i ob b hq hb=>.inl ?_) (fun i ob i' ob' b hq hq' hb hb'=>?_) (fun rep sv lents i ob hq=>?_)
 · rw [aC]
   by_cases h1:i=u
   · rw[if_pos h1,if_pos h1]
   · rw [if_neg h1, if_neg h1, aC]
     by_cases h2:i=id
     · rw[if_pos h2,if_pos h2]
     · rw[if_neg h2,if_neg h2];exact cC true u i s.o
 · rcases hN i _ hq with ⟨rfl, _⟩ | ⟨rfl, q⟩
   · obtain ⟨d, h1, h2⟩ := hx
     rw[ic h1] at h2;cases h2
   · injection q with q; subst q
     exact⟨e1 i (abN hu),by rw[e3],.inr (.inr (.inr (.inl ⟨e,cs,none,cs,_,hl,rfl,aaD _⟩)))⟩
 · rcases hN i _ hq with⟨_,q⟩|⟨_,q⟩<;>cases q
 · refine ⟨e1 i fun q => ?_, by rw [e3], by rw [e4]⟩
   rw[if_pos q] at hq;cases hq
 · refine ⟨id, _, by rw [if_neg (abN hu), if_pos J]; simp, hl, ?_⟩
   rcases hN i _ hq with⟨rfl,q⟩|⟨rfl,q⟩
   · injection q with q; subst q
     have hb:(E'.cur i).ownBlock=some b:=hb;rw[e2] at hb;exact .inr ⟨j,_,hc,by simp,hb⟩
   · injection q with q; subst q
     rcases hb with hb|hb
     · rw[e1 i (abN hu)] at hb;exact .inl hb
     · rw[e4] at hb;exact .inr (hsubs _ _ hb)
 · have key : ∀ b, (E.sub id j).ownBlock = some b → bG E' id b (.nar e cs (some (j, .arr u))) → False := fun b h1 h2 => by
     rcases h2 with h2|⟨i2,c2,q1,q2,q3⟩
     · rw [e1 id (abN hu)] at h2
       exact g5 b ⟨j,_,hc,by simp,h1⟩ h2
     · rw [e4] at q3
       have:=g4.apart i2 j c2 _ b q1 hc (by simp) (by simp) q3 h1;subst this;exact q2 J
   rcases hN i _ hq with⟨rfl,q⟩|⟨rfl,q⟩
   · injection q with q; subst q
     rcases hN i' _ hq' with⟨rfl,q'⟩|⟨rfl,q'⟩
     · rfl
     · injection q' with q'; subst q'
       exact(key b (by rw[←e2];exact hb) hb').elim
   · injection q with q; subst q
     rcases hN i' _ hq' with⟨rfl,q'⟩|⟨rfl,q'⟩
     · injection q' with q'; subst q'
       exact(key b (by rw[←e2];exact hb') hb).elim
     · rfl
 · rcases hN i _ hq with ⟨rfl, q⟩ | ⟨rfl, q⟩
   · injection q with q; subst q
     obtain⟨vals',h1,h2,h3⟩:=hrow;exact⟨vals',by rw[e2];exact h1,h2,fun k d hd=>⟨(h3 k d hd).1,rep .pl _ _ (h3 k d hd).2 (by simp)⟩⟩
   · injection q with q; subst q
     refine⟨n,vals,by rw[e1 i (abN hu)];exact g1,g2,by rw[e4];exact g3,⟨fun k c hk hn=>by rw[e4];exact(g4.ok k c hk (by simp)).go (fun _ _=>rfl) (fun _ _ hf=>hf) (fun v d hr=>rep .pl v d hr (by simp)),fun i1 i2 c1 c2 b h1 h2 _ _ h5 h6=>by rw[e4] at h5 h6;exact g4.apart i1 i2 c1 c2 b h1 h2 (by simp) (by simp) h5 h6,fun k u' hk=>?_,(fun k u' hk=>by cases hk)⟩,fun b hb=>by rw[e1 i (abN hu)];rw[e4] at hb;exact g5 b (hsubs _ _ hb)⟩;cases hk;rw[e4];exact e2.symm
def ig (u:Nat)(o:List (Nat×Ob)):List (Nat×Ob):=o.filter fun p=>!(Nat.beq p.1 u)
theorem dj (u i:Nat):∀o:List (Nat×Ob),(ig u o).lookup i=if i=u then none else o.lookup i
 | []=>by unfold ig;simp
 | (t, d) :: r => by
   have ih:=dj u i r;unfold ig at ih ⊢;rw[abz];by_cases h:t=u
   · subst h
     rw[if_neg (by simp),ih,aq];by_cases hi:i=t
     · rw[if_pos hi,if_pos hi]
     · rw[if_neg hi,if_neg hi,if_neg hi]
   · have hb : (!(Nat.beq t u)) = true := by
       cases q:Nat.beq t u with
       | false=>rfl
       | true=>exact absurd (aby q) h
     rw[if_pos hb,aq,aq,ih];by_cases hi:i=t
     · rw[if_pos hi,if_pos hi,if_neg (by rw[hi];exact h)]
     · rw[if_neg hi,if_neg hi]
theorem ba.MA (h:ba P w0 M0 E s a w)(hnd:Nodup s.s=true)(ae:∀b,M0 b→b<w0.w.heap.size)(hl:s.o.lookup id=some (.nar e cs (some (j,.arr u))))(hj:j<cs.length)(hlu:s.o.lookup u=some (.arr r xs)) :
   ba P w0 M0 E { n:=s.n,s:=s.s.filter (fun p=>p.2.stays true u),o:=ins id (.nar e (cs.set j (.row r xs)) none) (ig u (ib true u s.o)) } a w:=by
 have hu:u≠id:=fun q=>by rw[q,hl] at hlu;cases hlu
 obtain⟨n,vals,g1,g2,g3,g4,g5⟩:=h.wok.objs id _ hl;have hv:=g4.larr j u rfl;have hN:∀i q,(if i=u then some none else if i=id then some (some (Ob.nar e (cs.set j (.row r xs)) none)) else none:Option (Option Ob))=some q→(i=u∧q=none)∨(i=id∧q=some (.nar e (cs.set j (.row r xs)) none)):=fun i q hq=>by
   by_cases h1:i=u
   · rw[if_pos h1] at hq;injection hq with hq;exact .inl ⟨h1,hq.symm⟩
   · rw [if_neg h1] at hq
     by_cases h2:i=id
     · rw[if_pos h2] at hq;injection hq with hq;exact .inr ⟨h2,hq.symm⟩
     · rw[if_neg h2] at hq;cases hq
 have hcell:∀(k:Nat) c,(cs.set j (.row r xs))[k]?=some c→(k=j∧c=.row r xs)∨(k≠j∧cs[k]?=some c):=fun k c hk=>by
   by_cases q:k=j
   · subst q
     rw[ab9 hj] at hk;exact .inl ⟨rfl,by injection hk with hk;exact hk.symm⟩
   · rw [ace (abN q)] at hk
     exact .inr ⟨q,hk⟩
 have hne:∀k,k≠j→(some (j,eh.arr u)).map (·.1)≠some k:=fun k q q2=>by
   injection q2 with q2;exact q q2.symm
 have hsub:∀b,fY (E.sub id) b (cs.set j (.row r xs)) none→bG E u b (.arr r xs)∨fY (E.sub id) b cs (some (j,.arr u)):=fun b ⟨k,c,q1,_,q3⟩=>by
   rcases hcell k c q1 with⟨rfl,rfl⟩|⟨q4,q5⟩
   · refine .inl ?_
     show(E.cur u).ownBlock=some b;rw[←hv];exact q3
   · exact .inr ⟨k,c,q5,hne k q4,q3⟩
 refine ba.xo (E':=E) (SV.stays true u) (fun i=>if i=u then some none else if i=id then some (some (.nar e (cs.set j (.row r xs)) none)) else none) _ (fun i=>?_) (fun d=>rfl) (fun i ob hq hx=>?_) (fun i hq=>⟨rfl,rfl⟩) h hnd ae (fun i hq=>⟨rfl,rfl,rfl⟩) (fun x hx=>rfl) none ⟨rfl,rfl,rfl,aaD _,fun _ _ _=>rfl⟩ (fun _=>aaD _) (fun g hg=>by cases hg) (fun i ob b hq hb=>.inl ?_) (fun i ob i' ob' b hq hq' hb hb'=>?_) (fun rep sv lents i ob hq=>?_)
 · rw [aC]
   by_cases h2:i=id
   · rw[if_pos h2,if_neg (fun q=>hu (q.symm.trans h2)),if_pos h2]
   · rw [if_neg h2, dj]
     by_cases h1:i=u
     · rw[if_pos h1,if_pos h1]
     · rw[if_neg h1,if_neg h1,if_neg h2];exact cC true u i s.o
 · rcases hN i _ hq with ⟨_, q⟩ | ⟨rfl, q⟩
   · cases q
   · injection q with q; subst q
     exact⟨rfl,rfl,.inr (.inr (.inr (.inl ⟨e,cs,_,_,_,hl,rfl,by rw[acn];exact aaD _⟩)))⟩
 · rcases hN i _ hq with ⟨_, q⟩ | ⟨rfl, q⟩
   · cases q
   · injection q with q; subst q
     rcases hb with hb|hb
     · exact⟨i,_,by rw[if_neg (abN hu),if_pos J];simp,hl,.inl hb⟩
     · rcases hsub b hb with q1 | q1
       · exact⟨u,_,by rw[if_pos J];simp,hlu,q1⟩
       · exact⟨i,_,by rw[if_neg (abN hu),if_pos J];simp,hl,.inr q1⟩
 · rcases hN i _ hq with ⟨_, q⟩ | ⟨rfl, _⟩
   · cases q
   · rcases hN i' _ hq' with ⟨_, q⟩ | ⟨rfl, _⟩
     · cases q
     · rfl
 · rcases hN i _ hq with ⟨_, q⟩ | ⟨rfl, q⟩
   · cases q
   · injection q with q; subst q
     obtain⟨vals',h1,h2,h3⟩:=h.wok.objs u _ hlu;have apart:∀b,bG E u b (.arr r xs)→bG E i b (.nar e cs (some (j,.arr u)))→False:=fun b q1 q2=>hu (h.wok.disj u _ i _ b hlu hl q1 q2)
     have blk:∀b,(E.sub i j).ownBlock=some b→bG E u b (.arr r xs):=fun b q=>by
       show(E.cur u).ownBlock=some b;rw[←hv];exact q
     refine⟨n,vals,g1,by rw[acn];exact g2,fun k hk=>g3 k (by rwa [acn] at hk),⟨fun k c hk _=>?_,fun i1 i2 c1 c2 b q1 q2 _ _ q5 q6=>?_,(fun k u' hk=>by cases hk),(fun k u' hk=>by cases hk)⟩,fun b hb=>?_⟩
     · rcases hcell k c hk with ⟨rfl, rfl⟩ | ⟨q4, q5⟩
       · exact⟨vals',by rw[hv];exact h1,h2,fun k d hd=>⟨(h3 k d hd).1,rep .pl _ _ (h3 k d hd).2 (by simp)⟩⟩
       · exact(g4.ok k c q5 (hne k q4)).go (fun _ _=>rfl) (fun _ _ hf=>hf) (fun v d hr=>rep .pl v d hr (by simp))
     · rcases hcell i1 c1 q1 with ⟨rfl, rfl⟩ | ⟨p1, p2⟩
       · rcases hcell i2 c2 q2 with ⟨rfl, rfl⟩ | ⟨p3, p4⟩
         · rfl
         · exact(apart b (blk b q5) (.inr ⟨i2,c2,p4,hne i2 p3,q6⟩)).elim
       · rcases hcell i2 c2 q2 with ⟨rfl, rfl⟩ | ⟨p3, p4⟩
         · exact(apart b (blk b q6) (.inr ⟨i1,c1,p2,hne i1 p1,q5⟩)).elim
         · exact g4.apart i1 i2 c1 c2 b p2 p4 (hne i1 p1) (hne i2 p3) q5 q6
     · rcases hsub b hb with q1 | q1
       · exact fun q=>apart b q1 (.inl q)
       · exact g5 b q1
theorem Ca (ae:∀b,M0 b→b<w0.w.heap.size)(hnd:Nodup s.s=true)(hl:s.o.lookup id=some (.nar e cs (some (j,.arr u))))(hj:j<cs.length)(hlu:s.o.lookup u=some (.arr r xs)) :
 fm P w0 M0 s { n:=s.n,s:=s.s.filter (fun p=>p.2.stays true u),o:=ins id (.nar e (cs.set j (.row r xs)) none) (ig u (ib true u s.o)) }:=fun a w ⟨E,hs⟩=>⟨E,hs.MA hnd ae hl hj hlu⟩
theorem kH {y:Code}{Q:Exit→St→Prop}(id u:Nat)(ae:∀b,M0 b→b<w0.w.heap.size)(hnd:Nodup s.s=true)(hl:s.o.lookup id=some (.nar e cs (some (j,.arr u))))(hj:j<cs.length)(hlu:s.o.lookup u=some (.arr r xs))
 (h:aw P w0 M0 y { n:=s.n,s:=s.s.filter (fun p=>p.2.stays true u),o:=ins id (.nar e (cs.set j (.row r xs)) none) (ig u (ib true u s.o)) } Q):aw P w0 M0 y s Q:=aw.imp (Ca ae hnd hl hj hlu) h
end
section
variable {P:Program} {w0:Fr}{M0:Nat→Prop}{s:St}{o:Oper}{ρ:Operand→Option SV}{ob:List (Nat×Ob)}{id t u j k b:Nat}{e r T:TypeId}{cs:List Cell}{ln:Option (Nat×eh)}{xs:List AV}{x y:Operand}
theorem Az {w:World}{E:Env}{o:List (Nat×Ob)}(h:kP P w0 M0 w E o id (.nar e cs ln))(hk:bX P e=some 1):(E.cur id=.slice none 0 0∧cs.length=0)∨∃g cap,E.cur id=.slice (some ⟨g,0,none⟩) cs.length cap:=by
 obtain⟨n,vals,h1,h2,h3,h4,h5⟩:=h;have hn:cs.length=n:=by rw[h2,cQ hk,ab8]
 rcases h1.1.2 with⟨hv,h0⟩|⟨g,cap,cur,hv,_⟩
 ·exact .inl ⟨hv,adh⟩
 ·exact .inr ⟨g,cap,by rw[hv,hn]⟩
theorem Cb (ho:o.op=.call { callee:=.builtin .len,args:=#[x],argTypes:=#[T] })(hT:P.underlying T=some (.slice e))(hk:bX P e=some 1)(hx:ρ x=some (.nst id))(hl:ob.lookup id=some (.nar e cs ln)) :
  Pure P w0 M0 o ρ ob (.v .pl (.sc (.int .i64 cs.length))) :=
 aJ fun E w ev hw h=>by
  have hv:=(h x _ hx).1 e cs ln hl;refine⟨.int .i64 cs.length,w,?_,.refl _ _,.sc _ J⟩;rcases Az (hw.objs id _ hl) hk with⟨q,h0⟩|⟨g,cap,q⟩
  ·rw[q] at hv;simp[execOp,ho,resolve,hv,invoke,builtin,Builtin.len_,run_underlying hT,goInt,h0]
  ·rw[q] at hv;simp[execOp,ho,resolve,hv,invoke,builtin,Builtin.len_,run_underlying hT,goInt]
theorem dm {q:IntKind}{i:Int}(ho:o.op=.indexAddr T x y)(hT:P.underlying T=some (.slice e))(hk:bX P e=some 1)(hx:ρ x=some (.nst id))(hl:ob.lookup id=some (.nar e cs ln))(hy:bg ρ y=some (.int q i))(h:0≤i∧i<cs.length) :
   Pure P w0 M0 o ρ ob (.nel id i.toNat) :=
 aJ fun E w ev hw hh=>by
   have hr:=(hh x _ hx).1 e cs ln hl;have hi:=bZ hh hy;rcases Az (hw.objs id _ hl) hk with⟨_,h0⟩|⟨g,cap,hv⟩
   · omega
   · rw [hv] at hr
     have hel:P.elem T=e:=by simp[Program.elem,hT]
     refine⟨.pointer (some ⟨g,i.toNat,none⟩),w,?_,.refl _ _,fun e' cs' ln' h'=>?_⟩
     · have hin : 0 ≤ i ∧ i < (cs.length : Int) := h
       simp[execOp,ho,hr,hi,run_indexAt_slice,hel,hT,hin,dE hk,Addr.add_lit]
     · rw [hl] at h'
       simp only[aaB,Ob.nar.injEq] at h';obtain⟨_,rfl,_⟩:=h';exact⟨adh,g,by rw[hv];rfl,rfl⟩
theorem MB {w:World}{E:Env}{o':List (Nat×Ob)}{g:Nat}(h:kP P w0 M0 w E o' id (.nar e cs ln))(hj:j<cs.length)(hg:(E.cur id).ownBlock=some g)(hv:v=.pointer (some ⟨g,j,none⟩))(ho:o.op=.load T x)(hT:bo P T=some false){ev:Operand→Value}(hx:ev x=v) :
  (execOp ev o).run P w=.ok (.value (E.sub id j)) w:=by
 obtain⟨n,vals,h1,h2,h3,h4,h5⟩:=h;have hvl:j<vals.length:=by rw[h1.1.1,←h2];exact hj
 have hcell:=h1.1.cells hg j _ (aaF hvl);rw[Addr.add_lit,abL] at hcell;have e1:vals[j]=E.sub id j:=by
  rw[←h3 j hj,aax,aaF hvl];rfl
 rw[e1] at hcell;simp[execOp,ho,hx,hv,Instr.loadAt,Instr.sureAddr,loadVar,dy hT,hcell]
theorem dn (ho:o.op=.load T x)(hT:bo P T=some false)(hx:ρ x=some (.nel id j))(hl:ob.lookup id=some (.nar e cs (some (j,.arr u)))):Pure P w0 M0 o ρ ob (.own u) :=
 aJ fun E w ev hw h=>by
  obtain⟨hj,g,hg,hv⟩:=h x _ hx e cs _ hl;have h0:=hw.objs id _ hl;have hr:=MB h0 hj hg hv ho hT (ev:=ev) rfl;obtain⟨n,vals,h1,h2,h3,h4,h5⟩:=h0;exact⟨_,w,hr,.refl _ _,fun _ _ _=>h4.larr j u J⟩
end
open Go.Sort Go.Proofs
structure MC (P:Program)(f:FuncId):Prop where
 bu:cq P f
 none:∀(p:Option Addr)(cap:Nat)(w:World),Calls P f #[.slice p 0 cap] w fun e w'=>e=.returned (.tuple #[])∧w'=w
 some:∀(blk off cap:Nat)(zs:List Int)(w:World)(hH:Holds (Value.int .i64) w blk off zs.toArray)(hblk:blk<w.heap.size)(hsz:zs.length<4611686018427387904),
  Calls P f #[.slice (.some ⟨blk,off,.none⟩) zs.length cap] w fun e w' =>
   e=.returned (.tuple #[])∧∃n os,w'=grow (putRow (Value.int .i64) (Sort.ahead w n) blk off (zs.mergeSort fun x y=>decide (x≤y)).toArray) os
section
variable {P:Program} {w0:Fr}{M0:Nat→Prop}
variable {o:Oper} {s:St}{x y:Operand}{T T' e:TypeId}{c:fX}{id t:Nat}
theorem xJ {l:List Int}{f:FuncId}(hS:MC P f)(ho:o.op=.call { callee:=.value (.func f),args:=#[x],argTypes:=ats })(hd:o.dst=some t)(hn:Nat.blt t s.n=true)
   (hnd:Nodup s.s=true)(hx:s.ev x=some (.own id))(hl:s.o.lookup id=some (.arr e (l.map int)))(hk:bX P e=some 1)(hsz:l.length<4611686018427387904)(ae:∀b,M0 b→b<w0.w.heap.size) :
   Step P w0 M0 o s ((s.cK false id (.arr e ((l.mergeSort fun x y=>decide (x≤y)).map int))).put t (.v .pl (.tup []))):=by
 rintro a w Q ⟨E,hs⟩;have hxv:=hs.ev hx _ _ hl;have hob:=hs.wok.objs id _ hl;obtain⟨vals,⟨hown,hownF⟩,hcl,hrp⟩:=hob;have hck:=cQ hk;have hxl:(l.map int).length=l.length:=by simp
 have hvals:vals=l.map (Value.int .i64):=by
   apply abJ;intro j;have hlen:vals.length=l.length:=by have:=hown.1;rw[hck] at this;simpa using this
   rcases aa9 j l.length with hj|hj
   · have h2 := (hrp j (.sc (.int .i64 l[j])) (by rw [show l.map int = l.map fun z => AV.sc (Value.int .i64 z) from rfl, BY, aaI, aaF hj]; rfl)).2
     rw[aax,aaF adh,acI] at h2;rw[aaF adh,aaI,aaF hj,abu]
     congr 1
     generalize vals[j]=u at h2 ⊢;cases h2;rfl
   · rw[abg adh,abg (by simpa using hj)]
 have hrun:(execOp a.eval o).run P w=.ok (.enter f #[E.cur id]) w:=by
   have:=fG (P:=P) (ev:=a.eval) (w:=w) (caps:=#[]) ho rfl hS.bu;simpa[hxv] using this
 unfold Oper.wp;rw[hrun];simp only[Oper.upon];rcases hown.2 with⟨hv,hn0⟩|⟨gb,cap,cur,hv,hgb,hh,hnc',hcm,hcs,htake⟩
 · -- nothing to sort
   have hl0:l=[]:=aa4 (by simpa using hn0);rw[hv];refine(hS.none none 0 w).mono fun e' w' ⟨he,hw⟩=>?_
   subst he;subst hw;simp only[hd];refine⟨E,ba.put ?_ (by simpa[St.cK] using hn) (bL.tup [] [] J (fun j d hd=>by simp at hd))⟩;refine hs.cK false (fun _=>⟨rfl,.inl ⟨e,_,_,hl,rfl,by simp⟩⟩) hnd ae (fun i hi=>⟨rfl,rfl⟩) (.inr J) none ⟨rfl,rfl,rfl,aaD _,fun _ _ _=>rfl⟩ (fun _=>aaD _) (fun g hg'=>by cases hg') (fun b hb=>.inl ⟨_,hl,hb⟩) (fun rep sv=>?_);subst hl0;simp only[acT,abW];refine⟨[],⟨⟨by simp,.inl ⟨hv,rfl⟩⟩,hownF⟩,fun x hx=>(by cases hx),fun j d hd=>(by simp[flat] at hd)⟩
 · rw [hxl] at hv hnc' htake
   rw[hck,ab8] at hcs;rw[hck,ab8,hvals] at htake;rcases abZ l.length with hl0|hpos
   · -- nothing to sort, with room behind
     have hl0:l=[]:=aa4 hl0;rw[hv,hl0];refine(hS.none _ cap w).mono fun e' w' ⟨he,hw⟩=>?_
     subst he;subst hw;simp only[hd];refine⟨E,ba.put ?_ (by simpa[St.cK] using hn) (bL.tup [] [] J (fun j d hd=>by simp at hd))⟩;refine hs.cK false (fun _=>⟨rfl,.inl ⟨e,_,_,hl,rfl,by simp[hl0]⟩⟩) hnd ae (fun i hi=>⟨rfl,rfl⟩) (.inr J) none ⟨rfl,rfl,rfl,aaD _,fun _ _ _=>rfl⟩ (fun _=>aaD _) (fun g hg'=>by cases hg') (fun b hb=>.inl ⟨_,hl,hb⟩) (fun rep sv=>?_);simp only[acT,abW];refine⟨[],⟨⟨by simp,.inr ⟨gb,cap,cur,by rw[hv,hl0];rfl,hgb,hh,aaG _,hcm,by rw[hck,ab8];exact hcs,by simp⟩⟩,hownF⟩,fun x hx=>(by cases hx),fun j d hd=>(by simp[flat] at hd)⟩
   · have hblk : gb < w.heap.size := (abn.1 hh).1
     have hcurj:∀j (hj:j<l.length),cur[j]?=some (Value.int .i64 l[j]):=fun j hj=>by
       have:(cur.toList.take l.length)[j]?=some (Value.int .i64 l[j]):=by rw[htake,aaI,aaF hj];rfl
       rw[abo,if_pos hj,abi] at this;exact this
     have hH:Holds (Value.int .i64) w gb 0 l.toArray:=by
       intro j hj;have hj':j<l.length:=by simpa using hj
       refine⟨?_,?_⟩
       · simp only [World.cell?, hh, abL]
         rw[getElem!_pos l.toArray j hj];simpa using hcurj j hj'
       · simp only [World.frozen?, hh]
         simp
     have hcall:=hS.some gb 0 cap l w hH hblk hsz;rw[hv];refine hcall.mono fun e' w' ⟨he,n,os,hw⟩=>?_
     subst he;simp only[hd];generalize hml:(l.mergeSort fun x y=>decide (x≤y))=ml at hw;have hmll:ml.length=l.length:=by rw[←hml];simp
     have hw':w'=sortWorld (Value.int .i64) w gb 0 n ml.toArray os:=hw;have hdrawn:w.drawn≤w'.drawn:=by rw[hw'];simp[sortWorld,grow,putRow,mapBlock,Sort.ahead]
     have hgr:w.grownBy w' (some gb):=by
       rw[hw'];exact⟨rfl,rfl,rfl,by rw[fI];omega,fun k hk hne=>eY _ _ _ _ _ _ (fun he=>hne (by rw[he])) hk⟩
     have hhw:w'.heap[gb]?=some (.cells (putCells (Value.int .i64) 0 ml.toArray cur) e (0,0)):=by
       have:=jT (enc:=Value.int .i64) w gb n ml.toArray os (off:=0) hh;rw[hw'];exact this
     refine⟨E,ba.put ?_ (by simpa[St.cK] using hn) (bL.tup [] [] J (fun j d hd=>by simp at hd))⟩;refine hs.cK false (fun _=>⟨rfl,.inl ⟨e,_,_,hl,rfl,by simp[hmll]⟩⟩) hnd ae (fun i hi=>⟨rfl,rfl⟩) (.inr J) (some gb) hgr (fun _=>hdrawn) (fun g' hg'=>⟨_,hl,by simp only[aaB] at hg';subst hg';simp only[bG,hv,Value.ownBlock]⟩) (fun b hb=>.inl ⟨_,hl,hb⟩) (fun rep sv=>?_);refine⟨ml.map (Value.int .i64),⟨⟨by rw[hck];simp,.inr ⟨gb,cap,_,by rw[hv];simp[hmll],hgb,hhw,by simpa[hmll] using hnc',hcm,by rw[hck,ab8];simpa[putCells] using hcs,?_⟩⟩,hownF⟩,?_,fun j d' hd'=>?_⟩
     · rw [hck]
       apply abJ;intro j;simp only[aaA,ab8,hmll];rw[abo];by_cases hj:j<l.length
       · rw [if_pos hj, abi]
         simp only[putCells,Array.getElem?_mapIdx,hcurj j hj,abu,aaG,true_and,abL,adb,hmll,hj,if_true,acE];rw[aaI,aaF adh,abu,getElem!_pos ml.toArray j (by simp;omega)];simp
       · rw[if_neg hj,abg (by simp;omega)]
     · intro x hx
       rw[aa7] at hx;obtain⟨z,_,rfl⟩:=hx;rw[hck];rfl
     · rw [show ml.map int = ml.map fun z => AV.sc (Value.int .i64 z) from rfl, BY, aaI, aaH] at hd'
       obtain⟨z,hz,rfl⟩:=hd';refine⟨rfl,?_⟩;rw[aax,aaI,hz];exact .sc _ J
end
section
variable {P:Program} {w0:Fr}{M0:Nat→Prop}
variable {o:Oper} {s:St}{x y:Operand}{T T' e:TypeId}{c:fX}{id t:Nat}
end
end Go.Am
