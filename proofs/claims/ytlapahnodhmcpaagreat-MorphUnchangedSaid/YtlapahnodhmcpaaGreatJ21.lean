/-
  Part of the proof.
-/
import Derived.Test.YtlapahnodhmcpaaGreatJ0
import Derived.Test.YtlapahnodhmcpaaGreatJ6
import Derived.Test.YtlapahnodhmcpaaGreatJ8
import Derived.Shelf.SlSortCmp.WholeK
import Derived.Shelf.SlicesQ.Reverse
import Derived.Test.YtlapahnodhmcpaaGreatJ18
import Derived.Test.YtlapahnodhmcpaaGreatJ20
import Derived.Lib.IndexAny
import Derived.Test.YtlapahnodhmcpaaGreatJ19
set_option linter.unusedVariables false
set_option linter.unusedSectionVars false
set_option linter.unusedSimpArgs false
set_option maxRecDepth 100000
set_option maxHeartbeats 40000000
namespace Go.Am
open Go.RowKit Go.Sort Go.Proofs
structure Nu (P:Program)(f:FuncId)(k:Nat):Prop where
 bu:cg P f
 none:∀(p:Option Addr)(cap:Nat)(fv:Value)(w:World),Calls P f #[.slice p 0 cap,fv] w fun e w'=>e=.returned (.tuple #[])∧w'=w
 some:∀{α:Type} [Inhabited α](enc:α→List Value)(hk:∀x,(enc x).length=k)(h1:∀x,∀v∈enc x,v.oneCell'=true)(cf:α→α→Int)(hO:SWO (ltOf cf))(g:Nat)(cb:Array Value)(blk off cap:Nat)(d:Array α)(w:World)
  (eg:∀args w,(callFunc g args).run P w=.ok (.enter g args) w)(hcmp:CmpLays P g cb enc k cf blk off d.size w)(hH:HoldsK enc k w blk off d)(hblk:blk<w.heap.size)(hsz:d.size<4611686018427387904),
  Calls P f #[.slice (.some ⟨blk,off,.none⟩) d.size cap,.func (.func g) #[] cb] w fun e w' =>
   e=.returned (.tuple #[])∧∃d' n os,PermIn 0 d.size d d'∧SortedIn (ltOf cf) 0 d.size d'∧w'=sortWorldK enc k w blk off n d' os
variable{β:Type}
theorem A1  {p:β→Prop} {cf:β→β→Int} (hirr:∀ a,p a→¬ cf a a<0) (htr:∀ a b c,p a→p b→p c→cf a b<0→cf b c<0→cf a c<0)
   (htot:∀a b,p a→p b→¬cf a b<0→¬cf b a<0→a=b){l l':List β}(hp:∀z∈l,p z)(hperm:l'.Perm l)(hs:l'.Pairwise fun x y=>¬cf y x<0):l'=l.mergeSort fun x y=>!decide (cf y x<0):=by
 have hp':∀z∈l',p z:=fun z hz=>hp z (hperm.mem_iff.1 hz)
 have hm:=List.mergeSort_perm l (fun x y=>!decide (cf y x<0));have hpm:∀z∈l.mergeSort (fun x y=>!decide (cf y x<0)),p z:=fun z hz=>hp z (hm.mem_iff.1 hz)
 -- the sorted one
 have hsm:(l.mergeSort fun x y=>!decide (cf y x<0)).Pairwise fun x y=>¬cf y x<0:=by
   let d:List {z // p z}:=l.attach.map fun z=>⟨z.1,hp z.1 z.2⟩
   have hdl:d.map (·.1)=l:=by simp[d,aco,acG]
   have h1:=List.pairwise_mergeSort (le:=fun(x y:{z // p z})=>!decide (cf y.1 x.1<0)) (fun a b c h h'=>by
     simp only[aa5,decide_eq_false_iff_not] at h h' ⊢;intro hca;by_cases hab:cf a.1 b.1<0
     · exact h' (htr _ _ _ c.2 a.2 b.2 hca hab)
     · have := htot _ _ a.2 b.2 hab h
       rw[←this] at h';exact h' hca) (fun a b=>by
     by_cases hba:cf b.1 a.1<0
     · have : ¬ cf a.1 b.1 < 0 := fun h => hirr _ a.2 (htr _ _ _ a.2 b.2 a.2 h hba)
       simp[this]
     · simp[hba]) d
   have hms:(d.mergeSort fun x y=>!decide (cf y.1 x.1<0)).map (·.1)=l.mergeSort fun x y=>!decide (cf y x<0):=by
     rw[List.map_mergeSort (r:=fun(x y:{z // p z})=>!decide (cf y.1 x.1<0)) (s:=fun x y=>!decide (cf y x<0)) (fun a _ b _=>rfl),hdl]
   rw[←hms,acs];exact h1.imp fun h=>by simpa using h
 -- two sorted permutations
 have uniq : ∀ (a b : List β), (∀ z ∈ a, p z) → a.Perm b → a.Pairwise (fun x y => ¬ cf y x < 0) → b.Pairwise (fun x y => ¬ cf y x < 0) → a = b := by
   intro a
   induction a with
   | nil=>intro b _ h _ _;exact(List.nil_perm.1 h).symm
   | cons x a ih =>
     intro b ha h h1 h2;cases b with
     | nil=>exact absurd h.length_eq (by simp)
     | cons y b =>
       have hb:∀z∈y :: b,p z:=fun z hz=>ha z (h.mem_iff.2 hz)
       have hxy:x=y:=by
         rcases aaC.1 (h.mem_iff.1 aaq) with q|q
         · exact q
         · rcases aaC.1 (h.mem_iff.2 aaq) with q' | q'
           · exact q'.symm
           · exact htot x y (ha x aaq) (hb y aaq) ((aa2.1 h2).1 x q) ((aa2.1 h1).1 y q')
       subst hxy;rw[ih b (fun z hz=>ha z (aav _ hz)) (List.Perm.cons_inv h) (aa2.1 h1).2 (aa2.1 h2).2]
 exact uniq l' _ hp' (hperm.trans hm.symm) hs hsm
section
variable {P:Program} {w0:Fr}{M0:Nat→Prop}
variable {o:Oper} {s:St}{x y:Operand}{T T' e:TypeId}{c:fW}{id t k:Nat}
theorem rP {α:Type}{l:List α}{a k j:Nat}(h:j<k):((l.drop a).take k)[j]?=l[a+j]?:=by rw[aa1,if_pos h,abE]
theorem ym  {cells:β→List AV} {cf:β→β→Int} {p:β→Prop} {l:List β} {f g:FuncId} {caps:List AV} {ats:Array TypeId} (hS:Nu P f k) (ho:o.op=.call { callee:=.value (.func f),args:=#[x,y],argTypes:=ats }) (hd:o.dst=some t) (hn:Nat.blt t s.n=true)
   (hnd:Nodup s.s=true)(hx:s.ev x=some (.own id))(hl:s.o.lookup id=some (.arr e (l.map fun z=>.agg (cells z))))(hy:s.ev y=some (.v .pl (.clo g caps)))(hk:bY P e=some k)(hk0:0<k)(hp:∀z∈l,p z)
   (hc:∀a b:β,p a→p b→ak P g ([.agg (cells a),.agg (cells b)]++caps) (.p (int (cf a b))))(hg:cg P g)(hirr:∀a,p a→¬cf a a<0)(htr:∀a b c,p a→p b→p c→cf a b<0→cf b c<0→cf a c<0)
   (htot:∀a b,p a→p b→¬cf a b<0→¬cf b a<0→a=b)(hsz:l.length<4611686018427387904)(aa:∀b,M0 b→b<w0.w.heap.size) :
   Step P w0 M0 o s ((s.cC false id (.arr e ((l.mergeSort fun x y=>!decide (cf y x<0)).map fun z=>.agg (cells z)))).put t (.v .pl (.tup []))):=by
 rintro a w Q ⟨E,hs⟩;have hxv:=hs.ev hx _ _ hl;have hyv:bJ w (cB M0 (owned E s.o) .pl) (a.eval y) (.clo g caps):=hs.ev hy;have hob:=hs.wok.objs id _ hl;obtain⟨vals,⟨hown,hownF⟩,hcl,hrp⟩:=hob;have hck:=cL hk;have hxl:(l.map fun z=>AV.agg (cells z)).length=l.length:=by simp
 have hvlen:vals.length=l.length*k:=by have:=hown.1;rw[hck] at this;simpa using this
 have hcells:∀z∈l,(cells z).length=k:=fun z hz=>by have:=hcl _ (acm hz);rw[hck] at this;exact this
 have hclk:∀x∈(l.map fun z=>AV.agg (cells z)),(AV.cells x).length=k:=fun x hx=>by rw[←hck];exact hcl x hx
 have hfl:∀(i j:Nat)(hi:i<l.length),j<k→(flat (l.map fun z=>AV.agg (cells z)))[i*k+j]?=(cells l[i])[j]?:=fun i j hi hj=>by
   rw[flat_get _ i (.agg (cells l[i])) hclk (by rw[aap,aal hi];rfl) j hj];rfl
 generalize hq:a.eval y=q at hyv;cases hyv with
 | clo _ cb _ hnc hr =>
   have hrun:(execOp a.eval o).run P w=.ok (.enter f #[E.cur id,.func (.func g) #[] cb.toArray]) w:=by
     have:=fE (P:=P) (ev:=a.eval) (w:=w) (caps:=#[]) ho rfl hS.bu;simpa[hxv,hq] using this
   unfold Oper.wp;rw[hrun];simp only[Oper.upon];rcases hown.2 with⟨hv,hn0⟩|⟨gb,cap,cur,hv,hgb,hh,hnc',hcm,hcs,htake⟩
   · -- nothing to sort
     have hl0:l=[]:=aaD (by simpa using hn0);rw[hv];refine(hS.none none 0 _ w).mono fun e' w' ⟨he,hw⟩=>?_
     subst he;subst hw;simp only[hd];refine⟨E,ba.put ?_ (by simpa[St.cC] using hn) (bJ.tup [] [] J (fun j d hd=>by simp at hd))⟩;refine hs.cC false (fun _=>⟨rfl,.inl ⟨e,_,_,hl,rfl,by simp⟩⟩) hnd aa (fun i hi=>⟨rfl,rfl⟩) (.inr J) none ⟨rfl,rfl,rfl,aak _,fun _ _ _=>rfl⟩ (fun _=>aak _) (fun g hg'=>by cases hg') (fun b hb=>.inl ⟨_,hl,hb⟩) (fun rep sv=>?_);subst hl0;simp only[acp,abu];refine⟨[],⟨⟨by simp,.inl ⟨hv,rfl⟩⟩,hownF⟩,fun x hx=>(by cases hx),fun j d hd=>(by simp[flat] at hd)⟩
   · rw [hxl] at hv hnc' htake
     rw[hck] at hcs;rw[hck] at htake;rcases aby l.length with hl0|hpos
     · -- nothing to sort, with room behind
       have hl0:l=[]:=aaD hl0;rw[hv,hl0];refine(hS.none _ cap _ w).mono fun e' w' ⟨he,hw⟩=>?_
       subst he;subst hw;simp only[hd];refine⟨E,ba.put ?_ (by simpa[St.cC] using hn) (bJ.tup [] [] J (fun j d hd=>by simp at hd))⟩;refine hs.cC false (fun _=>⟨rfl,.inl ⟨e,_,_,hl,rfl,by simp[hl0]⟩⟩) hnd aa (fun i hi=>⟨rfl,rfl⟩) (.inr J) none ⟨rfl,rfl,rfl,aak _,fun _ _ _=>rfl⟩ (fun _=>aak _) (fun g hg'=>by cases hg') (fun b hb=>.inl ⟨_,hl,hb⟩) (fun rep sv=>?_);simp only[acp,abu];refine⟨[],⟨⟨by simp,.inr ⟨gb,cap,cur,by rw[hv,hl0];rfl,hgb,hh,aan _,hcm,by rw[hck];exact hcs,by simp⟩⟩,hownF⟩,fun x hx=>(by cases hx),fun j d hd=>(by simp[flat] at hd)⟩
     · have hblk : gb < w.heap.size := (aaV.1 hh).1
       have:Inhabited {i // i<l.length}:=⟨⟨0,hpos⟩⟩
       let d:List {i // i<l.length}:=(List.range l.length).attach.map fun z=>⟨z.1,aaI.1 z.2⟩
       have hdl:d.map (·.1)=List.range l.length:=by simp[d,aco,acG]
       have hdlen:d.length=l.length:=by simp[d]
       let enc':{i // i<l.length}→List Value:=fun z=>(vals.drop (z.1*k)).take k
       let cf':{i // i<l.length}→{i // i<l.length}→Int:=fun x y=>cf (l[x.1]'x.2) (l[y.1]'y.2)
       have hpl:∀x:{i // i<l.length},p (l[x.1]'x.2):=fun x=>hp _ (abp x.2)
       have hend:∀x:{i // i<l.length},x.1*k+k≤l.length*k:=fun x=>by
         have:=abl k (show x.1+1≤l.length from x.2);rwa [acg,Nat.one_mul] at this
       have hencl:∀x,(enc' x).length=k:=fun x=>by have:=hend x;simp only[enc',aau,aaw];omega
       have hencg:∀x j,j<k→(enc' x)[j]?=vals[x.1*k+j]?:=fun x j hj=>rP hj
       have hencd:∀x j,j<k→(enc' x).getD j undef=vals.getD (x.1*k+j) undef:=fun x j hj=>by rw[aag,aag,hencg x j hj]
       have hrepx:∀(x:{i // i<l.length}) j d',(cells (l[x.1]'x.2))[j]?=some d'→j<k∧AV.leaf d'=true∧bJ w (cB M0 (owned E s.o) .pl) ((enc' x).getD j undef) d':=fun x j d' hd'=>by
         have hj:j<k:=by rw[←hcells _ (abp x.2)];exact(aaz.1 hd').1
         have:=hrp (x.1*k+j) d' (by rw[hfl x.1 j x.2 hj];exact hd');exact⟨hj,this.1,by rw[hencd x j hj];exact this.2⟩
       have hone:∀x,∀v∈enc' x,v.oneCell'=true:=fun x v hv'=>by
         obtain⟨j,hj,rfl⟩:=abd hv';rw[hencl] at hj;obtain⟨q1,q2,q3⟩:=hrepx x j ((cells (l[x.1]'x.2))[j]'(by rw[hcells _ (abp x.2)];exact hj)) (aal _);rw[aag,aal (by rw[hencl];exact hj)] at q3;exact q3.one q2
       have hO:SWO (ltOf cf'):=by
         refine⟨fun x=>by simpa[ltOf,cf'] using hirr _ (hpl x),fun x y z h h'=>?_,fun x y z h h'=>?_⟩
         · simp only [ltOf, cf', decide_eq_true_eq] at h h' ⊢
           exact htr _ _ _ (hpl x) (hpl y) (hpl z) h h'
         · simp only [ltOf, cf', decide_eq_false_iff_not] at h h' ⊢
           intro hxz;by_cases hyx:cf (l[y.1]'y.2) (l[x.1]'x.2)<0
           · exact h' (htr _ _ _ (hpl y) (hpl x) (hpl z) hyx hxz)
           · have := htot _ _ (hpl x) (hpl y) h hyx
             rw[this] at hxz;exact h' hxz
       have hcurj:∀j (hj:j<l.length*k),cur[j]?=vals[j]?:=fun j hj=>by
         have:(cur.toList.take (l.length*k))[j]?=vals[j]?:=by rw[htake]
         rwa [aa1,if_pos hj,aaS] at this
       have hdj:∀j (hj:j<l.length),(d.toArray[j]!).1=j:=fun j hj=>by
         rw[getElem!_pos d.toArray j (by simpa[hdlen] using hj)];simp[d]
       have hfk:∀(dk:Array {i // i<l.length}),dk.size=l.length→∀u,u<l.length*k→some (flatK enc' k dk)[u]! = vals[(dk[u / k]!).1*k+u % k]?:=fun dk hdk u hu=>by
         rw[get_flatK enc' k dk u (by rw[hdk];exact hu)];have hm:u % k<k:=Nat.mod_lt _ hk0;have:=hencg (dk[u / k]!) (u % k) hm;rw[getElem!_pos _ _ (by rw[hencl];exact hm),←this,aal]
       have hH:HoldsK enc' k w gb 0 d.toArray:=by
         intro j hj;have hj':j<l.length*k:=by simpa[hdlen] using hj
         have hdv:j / k<l.length:=Nat.div_lt_of_lt_mul (by rw[acv];exact hj');refine⟨?_,?_⟩
         · simp only [World.cell?, hh, abg, _root_.id]
           rw[hfk d.toArray (by simp[hdlen]) j hj',hdj _ hdv];show cur[j]?=_;rw[hcurj j hj']
           congr 1
           rw[acv,Nat.div_add_mod]
         · simp only [World.frozen?, hh]
           simp
       have hsw:∀n dk os,sortWorldK enc' k w gb 0 n dk os=sortWorld (α:=Value) _root_.id w gb 0 n (flatK enc' k dk) os:=fun _ _ _=>rfl
       have hcmp:CmpLays P g cb.toArray enc' k cf' gb 0 d.toArray.size w:=by
         intro m os dk hdk x y;rw[hsw];obtain⟨_,hcall⟩:=hc (l[x.1]'x.2) (l[y.1]'y.2) (hpl x) (hpl y);generalize hW:sortWorld (α:=Value) _root_.id w gb 0 m (flatK enc' k dk) os=W;have hsz2:w.heap.size≤W.heap.size:=by rw[←hW,fH];omega
         have hoth:∀b,b≠gb→b<w.heap.size→W.heap[b]?=w.heap[b]?:=fun b h1 h2=>by rw[←hW];exact eQ _ _ _ _ _ _ h1 h2
         have hnob:∀b,¬cB M0 (owned E s.o) .pl b→b≠gb:=fun b hb he=>by
           subst he;exact hb (.inr ⟨id,_,hl,by simp only[bE,hv,Value.ownBlock]⟩)
         have hagg:∀x:{i // i<l.length},bJ W (fun _=>False) (.agg (enc' x).toArray) (.agg (cells (l[x.1]'x.2))):=fun x=>by
           refine .agg _ _ (by rw[hencl,hcells _ (abp x.2)]) (fun j d' hd'=>(hrepx x j d' hd').2.1) (fun j d' hd'=>?_);exact(hrepx x j d' hd').2.2.mono hsz2 (fun b hb hnM=>hoth b (hnob b hnM) hb) (fun b _ _ hf=>hf)
         have hc2:=hcall W ([.agg (enc' x).toArray,.agg (enc' y).toArray]++cb) (by simp[hnc]) (fun j d' hd'=>?_)
         · have e1 : ([Value.agg (enc' x).toArray, .agg (enc' y).toArray] ++ cb).toArray = #[Value.agg (enc' x).toArray, .agg (enc' y).toArray] ++ cb.toArray := by apply ab1; simp
           rw[e1] at hc2;refine hc2.mono fun e' w' ⟨v,he,hb,hrv⟩=>⟨?_,rI hb⟩
           have hrv':bJ w' _ v (int (cf (l[x.1]'x.2) (l[y.1]'y.2))):=hrv;cases hrv';exact he
         · match j with
           | 0=>simp at hd';subst hd';exact hagg x
           | 1=>simp at hd';subst hd';exact hagg y
           | j + 2 =>
             have hd2:caps[j]?=some d':=by simpa using hd'
             have:=hr j d' hd2;have e2:([Value.agg (enc' x).toArray,.agg (enc' y).toArray]++cb).getD (j+2) undef=cb.getD j undef:=by simp[aag]
             rw[e2];exact this.mono hsz2 (fun b hb hnM=>hoth b (hnob b hnM) hb) (fun b _ _ hf=>hf)
       have eg:∀args w,(callFunc g args).run P w=.ok (.enter g args) w:=by
         obtain⟨fn,g1,g2,g3⟩:=hg;have g3':fn.body≠none:=by intro hn;rw[hn] at g3;cases g3
         have g2' : ¬ fn.name = "runtime.NumGoroutine" := by simpa using g2
         intro args w;simp[callFunc,g1,g2',g3']
       have hcall:=hS.some enc' hencl hone cf' hO g cb.toArray gb 0 cap d.toArray w eg hcmp hH hblk (by simpa[hdlen] using hsz);have hsd:d.toArray.size=l.length:=by simp[hdlen]
       rw[hsd] at hcall;rw[hv];refine hcall.mono fun e' w' ⟨he,dk,n,os,hperm,hsorted,hw⟩=>?_
       subst he;simp only[hd];rw[hsw] at hw;obtain⟨hps,_,hpp⟩:=hperm;have hdks:dk.size=l.length:=by rw[hps,hsd]
       have hml:(dk.toList.map fun z=>l[z.1]'z.2)=l.mergeSort fun x y=>!decide (cf y x<0):=by
         refine A1 hirr htr htot hp ?_ ?_
         · have e0 : ∀ (a : Array {i // i < l.length}) n, n = a.size → (a.extract 0 n).toList = a.toList := by rintro a _ rfl; simp
           have e1:=e0 dk l.length hdks.symm;have e2:=e0 d.toArray l.length hsd.symm;rw[List.toList_toArray] at e2;rw[e1,e2] at hpp;have e3:(d.map fun z=>l[z.1]'z.2)=l:=by
             apply abe;intro j;rcases aaK j l.length with hj|hj
             · simp[d,hj]
             · rw[aaR (by simp[hdlen];omega),aaR hj]
           have:=hpp.map fun z=>l[z.1]'z.2
           rwa [e3] at this
         · rw [acs, abX]
           intro i j hi hj hij;have:=hsorted i j (aan _) hij (by simpa[hdks] using hj);rw[getElem!_pos dk j (by simpa using hj),getElem!_pos dk i (by simpa using hi)] at this;simpa[ltOf,cf'] using this
       rw[←hml];have hgr:w.grownBy w' (some gb):=by
         rw[hw];exact⟨rfl,rfl,rfl,by rw[fH];omega,fun k hk hne=>eQ _ _ _ _ _ _ (fun he=>hne (by rw[he])) hk⟩
       have hdrawn:w.drawn≤w'.drawn:=by rw[hw];simp[sortWorld,grow,putRow,mapBlock,Sort.ahead]
       have hhw:w'.heap[gb]?=some (.cells (putCells _root_.id 0 (flatK enc' k dk) cur) e (0,0)):=by
         have:=jV (α:=Value) (enc:=_root_.id) w gb n (flatK enc' k dk) os (off:=0) hh;rw[hw];exact this
       refine⟨E,ba.put ?_ (by simpa[St.cC] using hn) (bJ.tup [] [] J (fun j d hd=>by simp at hd))⟩;refine hs.cC false (fun _=>⟨rfl,.inl ⟨e,_,_,hl,rfl,by simp[hdks]⟩⟩) hnd aa (fun i hi=>⟨rfl,rfl⟩) (.inr J) (some gb) hgr (fun _=>hdrawn) (fun g' hg'=>⟨_,hl,by simp only[aaj] at hg';subst hg';simp only[bE,hv,Value.ownBlock]⟩) (fun b hb=>.inl ⟨_,hl,hb⟩) (fun rep sv=>?_);have hnlen:(flatK enc' k dk).size=l.length*k:=by rw[size_flatK,hdks]
       have hcl2:∀z∈((dk.toList.map fun z=>l[z.1]'z.2).map fun z=>AV.agg (cells z)),(AV.cells z).length=k:=fun z hz=>by
         rw[aaG] at hz;obtain⟨q,hq,rfl⟩:=hz;rw[aaG] at hq;obtain⟨u,_,rfl⟩:=hq;exact hcells _ (abp u.2)
       refine⟨(flatK enc' k dk).toList,⟨⟨by rw[hck];simp[hdks],.inr ⟨gb,cap,_,by rw[hv];simp[hdks],hgb,hhw,by simpa[hdks] using hnc',hcm,by rw[hck];simpa[putCells] using hcs,?_⟩⟩,hownF⟩,fun z hz=>by rw[hck];exact hcl2 z hz,fun j d' hd'=>?_⟩
       · rw [hck]
         apply abe;intro j;simp only[aai,ab5,hdks];rw[aa1];by_cases hj:j<l.length*k
         · have hcj : cur[j]? = some (vals[j]'(by rw [hvlen]; exact hj)) := by rw [hcurj j hj, aal]
           rw[if_pos hj,aaS];simp only[putCells,Array.getElem?_mapIdx,hcj,aa3,aan,true_and,abg,hnlen,hj,if_true,ab7,_root_.id];rw[aaS,aaM acK,getElem!_pos _ j acK]
         · rw[if_neg hj,aaR (by simp[hnlen];omega)]
       · have hj : j < l.length * k := by
           have:=(aaz.1 hd').1;rw[bO _ hcl2] at this;simpa[hdks] using this
         have hdv:j / k<l.length:=Nat.div_lt_of_lt_mul (by rw[acv];exact hj);have hm:j % k<k:=Nat.mod_lt _ hk0;have hjk:j / k*k+j % k=j:=by rw[acv,Nat.div_add_mod]
         have hg1:((dk.toList.map fun z=>l[z.1]'z.2).map fun z=>AV.agg (cells z))[j / k]?=some (.agg (cells (l[(dk[j / k]!).1]'(dk[j / k]!).2))):=by
           rw[aap,aap,aaS,aaM acK,getElem!_pos dk _ acK];rfl
         have hd2:=flat_get _ (j / k) _ hcl2 hg1 (j % k) hm;rw[hjk,hd'] at hd2;obtain⟨_,q2,q3⟩:=hrepx (dk[j / k]!) (j % k) d' hd2.symm;refine⟨q2,?_⟩;have e1:(flatK enc' k dk).toList.getD j undef=(enc' (dk[j / k]!)).getD (j % k) undef:=by
           rw[hencd _ _ hm,aag,aag,←hfk dk hdks j hj,aaS,aaM acK,getElem!_pos _ j acK]
         rw[e1];exact rep _ _ _ q3 acM
end
structure U8 (P:Program)(f:FuncId)(k:Nat):Prop where
 bu:cg P f
 none:∀(p:Option Addr)(cap:Nat)(w:World),Calls P f #[.slice p 0 cap] w fun e w'=>e=.returned (.tuple #[])∧w'=w
 some:∀{α:Type} [Inhabited α](enc:α→List Value)(hk:∀x,(enc x).length=k)(h1:∀x,∀v∈enc x,v.oneCell'=true)(blk off cap:Nat)(d:Array α)(w:World)(hH:HoldsK enc k w blk off d)(hsz:d.size≤9223372036854775807),
  Calls P f #[.slice (.some ⟨blk,off,.none⟩) d.size cap] w fun e w'=>e=.returned (.tuple #[])∧∃n,w'=putRowK enc k (Sort.ahead w n) blk off d.reverse
section
variable {P:Program} {w0:Fr}{M0:Nat→Prop}
variable {o:Oper} {s:St}{x y:Operand}{T T' e:TypeId}{c:fW}{id t k:Nat}
theorem A2  {cells:β→List AV} {l:List β} {f:FuncId} {ats:Array TypeId} (hS:U8 P f k) (ho:o.op=.call { callee:=.value (.func f),args:=#[x],argTypes:=ats }) (hd:o.dst=some t) (hn:Nat.blt t s.n=true)
   (hnd:Nodup s.s=true)(hx:s.ev x=some (.own id))(hl:s.o.lookup id=some (.arr e (l.map fun z=>.agg (cells z))))(hk:bY P e=some k)(hk0:0<k)
   (hsz:l.length<4611686018427387904)(aa:∀b,M0 b→b<w0.w.heap.size) :
   Step P w0 M0 o s ((s.cC false id (.arr e (l.reverse.map fun z=>.agg (cells z)))).put t (.v .pl (.tup []))):=by
 rintro a w Q ⟨E,hs⟩;have hxv:=hs.ev hx _ _ hl;have hob:=hs.wok.objs id _ hl;obtain⟨vals,⟨hown,hownF⟩,hcl,hrp⟩:=hob;have hck:=cL hk;have hxl:(l.map fun z=>AV.agg (cells z)).length=l.length:=by simp
 have hvlen:vals.length=l.length*k:=by have:=hown.1;rw[hck] at this;simpa using this
 have hcells:∀z∈l,(cells z).length=k:=fun z hz=>by have:=hcl _ (acm hz);rw[hck] at this;exact this
 have hclk:∀x∈(l.map fun z=>AV.agg (cells z)),(AV.cells x).length=k:=fun x hx=>by rw[←hck];exact hcl x hx
 have hfl:∀(i j:Nat)(hi:i<l.length),j<k→(flat (l.map fun z=>AV.agg (cells z)))[i*k+j]?=(cells l[i])[j]?:=fun i j hi hj=>by
   rw[flat_get _ i (.agg (cells l[i])) hclk (by rw[aap,aal hi];rfl) j hj];rfl
 · skip
   have hrun:(execOp a.eval o).run P w=.ok (.enter f #[E.cur id]) w:=by
     have:=fE (P:=P) (ev:=a.eval) (w:=w) (caps:=#[]) ho rfl hS.bu;simpa[hxv] using this
   unfold Oper.wp;rw[hrun];simp only[Oper.upon];rcases hown.2 with⟨hv,hn0⟩|⟨gb,cap,cur,hv,hgb,hh,hnc',hcm,hcs,htake⟩
   · -- nothing to sort
     have hl0:l=[]:=aaD (by simpa using hn0);rw[hv];refine(hS.none none 0 w).mono fun e' w' ⟨he,hw⟩=>?_
     subst he;subst hw;simp only[hd];refine⟨E,ba.put ?_ (by simpa[St.cC] using hn) (bJ.tup [] [] J (fun j d hd=>by simp at hd))⟩;refine hs.cC false (fun _=>⟨rfl,.inl ⟨e,_,_,hl,rfl,by simp⟩⟩) hnd aa (fun i hi=>⟨rfl,rfl⟩) (.inr J) none ⟨rfl,rfl,rfl,aak _,fun _ _ _=>rfl⟩ (fun _=>aak _) (fun g hg'=>by cases hg') (fun b hb=>.inl ⟨_,hl,hb⟩) (fun rep sv=>?_);subst hl0;simp only[List.reverse_nil,abu];refine⟨[],⟨⟨by simp,.inl ⟨hv,rfl⟩⟩,hownF⟩,fun x hx=>(by cases hx),fun j d hd=>(by simp[flat] at hd)⟩
   · rw [hxl] at hv hnc' htake
     rw[hck] at hcs;rw[hck] at htake;rcases aby l.length with hl0|hpos
     · -- nothing to sort, with room behind
       have hl0:l=[]:=aaD hl0;rw[hv,hl0];refine(hS.none _ cap w).mono fun e' w' ⟨he,hw⟩=>?_
       subst he;subst hw;simp only[hd];refine⟨E,ba.put ?_ (by simpa[St.cC] using hn) (bJ.tup [] [] J (fun j d hd=>by simp at hd))⟩;refine hs.cC false (fun _=>⟨rfl,.inl ⟨e,_,_,hl,rfl,by simp[hl0]⟩⟩) hnd aa (fun i hi=>⟨rfl,rfl⟩) (.inr J) none ⟨rfl,rfl,rfl,aak _,fun _ _ _=>rfl⟩ (fun _=>aak _) (fun g hg'=>by cases hg') (fun b hb=>.inl ⟨_,hl,hb⟩) (fun rep sv=>?_);simp only[List.reverse_nil,abu];refine⟨[],⟨⟨by simp,.inr ⟨gb,cap,cur,by rw[hv,hl0];rfl,hgb,hh,aan _,hcm,by rw[hck];exact hcs,by simp⟩⟩,hownF⟩,fun x hx=>(by cases hx),fun j d hd=>(by simp[flat] at hd)⟩
     · have hblk : gb < w.heap.size := (aaV.1 hh).1
       have:Inhabited {i // i<l.length}:=⟨⟨0,hpos⟩⟩
       let d:List {i // i<l.length}:=(List.range l.length).attach.map fun z=>⟨z.1,aaI.1 z.2⟩
       have hdl:d.map (·.1)=List.range l.length:=by simp[d,aco,acG]
       have hdlen:d.length=l.length:=by simp[d]
       let enc':{i // i<l.length}→List Value:=fun z=>(vals.drop (z.1*k)).take k
       have hend:∀x:{i // i<l.length},x.1*k+k≤l.length*k:=fun x=>by
         have:=abl k (show x.1+1≤l.length from x.2);rwa [acg,Nat.one_mul] at this
       have hencl:∀x,(enc' x).length=k:=fun x=>by have:=hend x;simp only[enc',aau,aaw];omega
       have hencg:∀x j,j<k→(enc' x)[j]?=vals[x.1*k+j]?:=fun x j hj=>rP hj
       have hencd:∀x j,j<k→(enc' x).getD j undef=vals.getD (x.1*k+j) undef:=fun x j hj=>by rw[aag,aag,hencg x j hj]
       have hrepx:∀(x:{i // i<l.length}) j d',(cells (l[x.1]'x.2))[j]?=some d'→j<k∧AV.leaf d'=true∧bJ w (cB M0 (owned E s.o) .pl) ((enc' x).getD j undef) d':=fun x j d' hd'=>by
         have hj:j<k:=by rw[←hcells _ (abp x.2)];exact(aaz.1 hd').1
         have:=hrp (x.1*k+j) d' (by rw[hfl x.1 j x.2 hj];exact hd');exact⟨hj,this.1,by rw[hencd x j hj];exact this.2⟩
       have hone:∀x,∀v∈enc' x,v.oneCell'=true:=fun x v hv'=>by
         obtain⟨j,hj,rfl⟩:=abd hv';rw[hencl] at hj;obtain⟨q1,q2,q3⟩:=hrepx x j ((cells (l[x.1]'x.2))[j]'(by rw[hcells _ (abp x.2)];exact hj)) (aal _);rw[aag,aal (by rw[hencl];exact hj)] at q3;exact q3.one q2
       have hcurj:∀j (hj:j<l.length*k),cur[j]?=vals[j]?:=fun j hj=>by
         have:(cur.toList.take (l.length*k))[j]?=vals[j]?:=by rw[htake]
         rwa [aa1,if_pos hj,aaS] at this
       have hdj:∀j (hj:j<l.length),(d.toArray[j]!).1=j:=fun j hj=>by
         rw[getElem!_pos d.toArray j (by simpa[hdlen] using hj)];simp[d]
       have hfk:∀(dk:Array {i // i<l.length}),dk.size=l.length→∀u,u<l.length*k→some (flatK enc' k dk)[u]! = vals[(dk[u / k]!).1*k+u % k]?:=fun dk hdk u hu=>by
         rw[get_flatK enc' k dk u (by rw[hdk];exact hu)];have hm:u % k<k:=Nat.mod_lt _ hk0;have:=hencg (dk[u / k]!) (u % k) hm;rw[getElem!_pos _ _ (by rw[hencl];exact hm),←this,aal]
       have hH:HoldsK enc' k w gb 0 d.toArray:=by
         intro j hj;have hj':j<l.length*k:=by simpa[hdlen] using hj
         have hdv:j / k<l.length:=Nat.div_lt_of_lt_mul (by rw[acv];exact hj');refine⟨?_,?_⟩
         · simp only [World.cell?, hh, abg, _root_.id]
           rw[hfk d.toArray (by simp[hdlen]) j hj',hdj _ hdv];show cur[j]?=_;rw[hcurj j hj']
           congr 1
           rw[acv,Nat.div_add_mod]
         · simp only [World.frozen?, hh]
           simp
       have hsw:∀n dk os,sortWorldK enc' k w gb 0 n dk os=sortWorld (α:=Value) _root_.id w gb 0 n (flatK enc' k dk) os:=fun _ _ _=>rfl
       have hcall:=hS.some enc' hencl hone gb 0 cap d.toArray w hH (by simp[hdlen];omega);have hsd:d.toArray.size=l.length:=by simp[hdlen]
       rw[hsd] at hcall;rw[hv];refine hcall.mono fun e' w' ⟨he,n,hw⟩=>?_
       subst he;simp only[hd];obtain⟨dk,hdk⟩:∃dk,dk=d.toArray.reverse:=⟨_,rfl⟩;rw[←hdk] at hw;have hw:w'=sortWorld (α:=Value) _root_.id w gb 0 n (flatK enc' k dk) #[]:=by rw[hw];unfold sortWorld;rw[grow_empty];rfl
       have hdks:dk.size=l.length:=by rw[hdk,Array.size_reverse,hsd]
       have hml:(dk.toList.map fun z=>l[z.1]'z.2)=l.reverse:=by
         have e3:(d.map fun z=>l[z.1]'z.2)=l:=by
           apply abe;intro j;rcases aaK j l.length with hj|hj
           · simp[d,hj]
           · rw[aaR (by simp[hdlen];omega),aaR hj]
         rw[hdk,Array.toList_reverse,List.map_reverse,List.toList_toArray,e3]
       rw[←hml];have hgr:w.grownBy w' (some gb):=by
         rw[hw];exact⟨rfl,rfl,rfl,by rw[fH];omega,fun k hk hne=>eQ _ _ _ _ _ _ (fun he=>hne (by rw[he])) hk⟩
       have hdrawn:w.drawn≤w'.drawn:=by rw[hw];simp[sortWorld,grow,putRow,mapBlock,Sort.ahead]
       have hhw:w'.heap[gb]?=some (.cells (putCells _root_.id 0 (flatK enc' k dk) cur) e (0,0)):=by
         have:=jV (α:=Value) (enc:=_root_.id) w gb n (flatK enc' k dk) #[] (off:=0) hh;rw[hw];exact this
       refine⟨E,ba.put ?_ (by simpa[St.cC] using hn) (bJ.tup [] [] J (fun j d hd=>by simp at hd))⟩;refine hs.cC false (fun _=>⟨rfl,.inl ⟨e,_,_,hl,rfl,by simp[hdks]⟩⟩) hnd aa (fun i hi=>⟨rfl,rfl⟩) (.inr J) (some gb) hgr (fun _=>hdrawn) (fun g' hg'=>⟨_,hl,by simp only[aaj] at hg';subst hg';simp only[bE,hv,Value.ownBlock]⟩) (fun b hb=>.inl ⟨_,hl,hb⟩) (fun rep sv=>?_);have hnlen:(flatK enc' k dk).size=l.length*k:=by rw[size_flatK,hdks]
       have hcl2:∀z∈((dk.toList.map fun z=>l[z.1]'z.2).map fun z=>AV.agg (cells z)),(AV.cells z).length=k:=fun z hz=>by
         rw[aaG] at hz;obtain⟨q,hq,rfl⟩:=hz;rw[aaG] at hq;obtain⟨u,_,rfl⟩:=hq;exact hcells _ (abp u.2)
       refine⟨(flatK enc' k dk).toList,⟨⟨by rw[hck];simp[hdks],.inr ⟨gb,cap,_,by rw[hv];simp[hdks],hgb,hhw,by simpa[hdks] using hnc',hcm,by rw[hck];simpa[putCells] using hcs,?_⟩⟩,hownF⟩,fun z hz=>by rw[hck];exact hcl2 z hz,fun j d' hd'=>?_⟩
       · rw [hck]
         apply abe;intro j;simp only[aai,ab5,hdks];rw[aa1];by_cases hj:j<l.length*k
         · have hcj : cur[j]? = some (vals[j]'(by rw [hvlen]; exact hj)) := by rw [hcurj j hj, aal]
           rw[if_pos hj,aaS];simp only[putCells,Array.getElem?_mapIdx,hcj,aa3,aan,true_and,abg,hnlen,hj,if_true,ab7,_root_.id];rw[aaS,aaM acK,getElem!_pos _ j acK]
         · rw[if_neg hj,aaR (by simp[hnlen];omega)]
       · have hj : j < l.length * k := by
           have:=(aaz.1 hd').1;rw[bO _ hcl2] at this;simpa[hdks] using this
         have hdv:j / k<l.length:=Nat.div_lt_of_lt_mul (by rw[acv];exact hj);have hm:j % k<k:=Nat.mod_lt _ hk0;have hjk:j / k*k+j % k=j:=by rw[acv,Nat.div_add_mod]
         have hg1:((dk.toList.map fun z=>l[z.1]'z.2).map fun z=>AV.agg (cells z))[j / k]?=some (.agg (cells (l[(dk[j / k]!).1]'(dk[j / k]!).2))):=by
           rw[aap,aap,aaS,aaM acK,getElem!_pos dk _ acK];rfl
         have hd2:=flat_get _ (j / k) _ hcl2 hg1 (j % k) hm;rw[hjk,hd'] at hd2;obtain⟨_,q2,q3⟩:=hrepx (dk[j / k]!) (j % k) d' hd2.symm;refine⟨q2,?_⟩;have e1:(flatK enc' k dk).toList.getD j undef=(enc' (dk[j / k]!)).getD (j % k) undef:=by
           rw[hencd _ _ hm,aag,aag,←hfk dk hdks j hj,aaS,aaM acK,getElem!_pos _ j acK]
         rw[e1];exact rep _ _ _ q3 acM
end
end Go.Am
namespace Go.Wb
open Go.Am Go.Wc
section
variable {most n:Int}{st:List Rx}
end
structure Xz where
 kind:Int
 atom:Rx
 pos:Int
instance:Inhabited Xz:=⟨⟨0,dI,0⟩⟩
structure PS where
 l:List Xz
 bad:Int
def PS.hd (s:PS):Int:=(s.l.getD 0 default).kind
def PS.fail (s:PS):PS:=if s.bad<0 then⟨s.l,(s.l.getD 0 default).pos⟩ else s
structure Nv (l:List Xz):Prop where
 nf:∀t∈l,Nf t.atom
 pos:∀t∈l,0≤t.pos
theorem Nv.sub {l m:List Xz}(h:Nv l)(hs:∀t∈m,t∈l):Nv m:=⟨fun t ht=>h.nf t (hs t ht),fun t ht=>h.pos t (hs t ht)⟩
end Go.Wb
namespace Go.Wc
open Go.Am
abbrev Ya:List UInt8:=[48,49,50,51,52,53,54,55,56,57,45,35,46,124,40,41,42,63,123,125,62,47,95,126,59,58,44,61,34,64]
def Yb (c:UInt8):Bool:=Ya.contains c||decide (c.toNat<33)
def Tt (s:List UInt8):Bool:=s.all (fun c=>!Yb c)&&decide (1≤s.length)&&decide (s.length≤4)
def Tu (a:List cK)(x:cK):Prop :=
 Tt x.text=true∧0≤x.base∧x.base<a.length∧(a.getD x.base.toNat default).base=x.base∧0≤x.mark∧x.mark≤15∧0≤x.cap∧x.cap≤1∧1≤x.width∧x.width≤1000
def Tv (x:cK)(i:Nat):Prop:=x.base=i→x.mark=0∧x.cap=0
def Tw (a:List cK)(i:Nat):Prop:=∀k,k<i→(a.getD k default).text≠(a.getD i default).text
def Yc (a:List cK)(i:Nat):Prop:=Tu a (a.getD i default)∧Tv (a.getD i default) i∧Tw a i
instance (a:List cK)(x:cK):Decidable (Tu a x):=by unfold Tu;infer_instance
instance (x:cK) (i:Nat):Decidable (Tv x i):=by unfold Tv;infer_instance
instance (a:List cK)(i:Nat):Decidable (Tw a i):=by unfold Tw;infer_instance
instance (a:List cK)(i:Nat):Decidable (Yc a i):=by unfold Yc;infer_instance
def Nw (a:List cK):Prop:=(1≤a.length∧a.length≤60)∧∀i,i<a.length→Yc a i
instance (a:List cK):Decidable (Nw a):=by unfold Nw;infer_instance
end Go.Wc
namespace Go.Wb
open Go.Am Go.Wc
structure U9 where
 name:List UInt8
 syms:List Int
instance:Inhabited U9:=⟨⟨[],[]⟩⟩
def preB (s t:List UInt8):Bool:=decide (t.length≤s.length)&&decide (s.take t.length=t)
def Nx (a:List cK)(t:List UInt8):Nat→Nat×Nat
 | 0=>(0,0)
 | i+1=>if(Nx a t i).2<(a.getD i default).text.length∧preB t (a.getD i default).text=true then(i,(a.getD i default).text.length) else Nx a t i
section
variable {a:List cK}{sets:List U9}{s t:List UInt8}
section
variable (hb:¬ 0<(Nx a t a.length).2)
end
end
theorem yn:∀ {l:List Int}{m:Nat},qa FW l→(∀x∈l,(m:Int)≤x∧x<64)→l.length≤64-m
 | [],m,_,_=>aan _
 | x :: l, m, hs, h => by
   have h1:=h x aaq;have h2:=aa2.1 hs;have h3:=yn (l:=l) (m:=m+1) h2.2 fun y hy=>⟨by
     have:=h2.1 y hy;have h4:=of_decide_eq_true this.1;have h5:=this.2;omega,(h y (aav _ hy)).2⟩
   rw[aam];omega
theorem Kb {s:List Int}(h:jY s=true):s.length≤64:=by have h1:=jH.1 h;exact yn (m:=0) h1.2.1 fun x hx=>h1.2.2 x hx
def R3 (x:Rx):Rx:=aL true x
structure Qf (x:Rx):Prop where
 nf:Nf x
 kind:(R3 x).kind=x.kind
 acc:cO (R3 x)=cO x
 rnf:Nf (R3 x)
 inv:R3 (R3 x)=x
 kids:x.kind=4→∀y∈(R3 x).kids,∃z∈x.kids,y.kind=z.kind
 kids':x.kind=4→∀z∈x.kids,∃y∈(R3 x).kids,z.kind=y.kind
variable{x:Rx}
theorem Qf.rv (h:Qf x):Qf (R3 x):=by
 refine⟨h.rnf,by rw[h.inv,h.kind],by rw[h.inv,h.acc],by rw[h.inv];exact h.nf,by rw[h.inv],fun h4 y hy=>?_,fun h4 y hy=>?_⟩
 ·rw[h.inv] at hy;exact h.kids' (by rw[←h.kind];exact h4) y hy
 ·rw[h.inv];exact h.kids (by rw[←h.kind];exact h4) y hy
structure R4 (l:List Rx):Prop where
 len:2≤l.length
 rv:∀x∈l,Qf x
 kinds:∀x∈l,x.kind≠0∧x.kind≠4
 srt:qa rz l
 two:∀x∈l,∀y∈l,x.kind=2→y.kind=2→x=y
 acc:∀x∈l,x.kind=1→∀y∈l,y.kind≠1→cO y=false
theorem R4.nf {l:List Rx}(h:R4 l):Nf (.mk 4 [] l):=.alt h.len (fun x hx=>(h.rv x hx).nf) h.kinds h.srt h.two h.acc
theorem Ny {D:List Rx}(hs:qa rz D)(hn:∀x∈D,Nf x∧x.kind≠0):x∈kg D↔x∈D∧¬(x.kind=1∧∃y∈D,y.kind≠1∧cO y=true):=by
 by_cases h:1<D.length∧(D.getD 0 default).kind=1∧(D.drop 1).any cO=true
 ·rw[x6 h.1 h.2.1 h.2.2];have h0:D.getD 0 default∈D:=aQ acK;constructor
  ·intro hx;have hd:=nR hs hx;exact⟨hd.2,fun q=>hd.1 (e6 hs hn hd.2 q.1).symm⟩
  ·rintro⟨hx,hq⟩;refine nS hx fun e=>hq ⟨by rw[e];exact h.2.1,?_⟩
   obtain⟨y,hy,ha⟩:=aaQ.1 h.2.2;have hd:=nR hs hy;exact⟨y,hd.2,fun q=>hd.1 (e6 hs hn hd.2 q).symm,ha⟩
 ·rw[mn h];refine⟨fun hx=>⟨hx,?_⟩,fun q=>q.1⟩;rintro⟨hk,y,hy,hy1,ha⟩;have e:=e6 hs hn hx hk;have hy2:y∈D.drop 1:=nS hy fun q=>hy1 (by rw[q,e];exact hk)
  refine h ⟨?_,by rw[e];exact hk,aaQ.2 ⟨y,hy2,ha⟩⟩;have:=abW hy2;rw[aaw] at this;omega
mutual
def Dd:Rx→Nat
 | .mk k _ l=>if k=3∨k=4 then rC l else if k=5 then 1+rC l else if k=2 then 2 else 1
def rC:List Rx→Nat
 | []=>0
 | x :: l=>Dd x+rC l
end
theorem Cm (r:Rx):Dd r=if r.kind=3∨r.kind=4 then rC r.kids else if r.kind=5 then 1+rC r.kids else if r.kind=2 then 2 else 1:=by cases r with|mk k s l=>rw[Dd];rfl
variable{r:Rx}
theorem uO (h:r.kind=3∨r.kind=4):Dd r=rC r.kids:=by rw[Cm,if_pos h]
theorem Nz (h:r.kind=5):Dd r=1+rC r.kids:=by rw[Cm,if_neg acK,if_pos h]
theorem R5 (h:r.kind=2):Dd r=2:=by rw[Cm,if_neg acK,if_neg acK,if_pos h]
theorem R6 (h:r.kind=0∨r.kind=1):Dd r=1:=by rw[Cm,if_neg acK,if_neg acK,if_neg acK]
theorem Ik:rC []=0:=by rw[rC]
theorem nX (x:Rx)(l:List Rx):rC (x :: l)=Dd x+rC l:=by rw[rC]
theorem Il (x:Rx):rC [x]=Dd x:=by rw[rC,rC];rfl
theorem Im:∀ l m:List Rx,rC (l++m)=rC l+rC m
 | [],m=>by rw[abz,Ik,abg]
 | x :: l,m=>by rw[abN,nX,nX,Im l m];omega
theorem Qg {l:List Rx}(h:x∈l):Dd x≤rC l:=by
 induction l with
 | nil=>cases h
 | cons y l ih =>
   rw[nX];rcases aaC.1 h with rfl|h
   · omega
   · have:=ih h;omega
theorem Cn {n:Nat}:∀{l:List Rx},(∀x∈l,n≤Dd x)→n*l.length≤rC l
 | [],_=>by rw[Ik];exact aak _
 | x :: l, h => by
   have h1:=Cn (l:=l) fun y hy=>h y (aav _ hy)
   have h2:=h x aaq;rw[nX,aam,Nat.mul_add];omega
theorem R7 (h:Nf x):1≤Dd x∧(2≤x.kind→2≤Dd x):=by
 induction h with
 | none=>rw[R6 (.inl rfl)];exact⟨aak _,fun h=>absurd h acM⟩
 | empty=>rw[R6 (.inr rfl)];exact⟨aak _,fun h=>absurd h acM⟩
 | set h=>rw[R5 rfl];exact⟨by decide,fun _=>aak _⟩
 | @seq l h2 hn hk ih =>
   rw[uO (.inl rfl)];show 1≤rC l∧(_→2≤rC l);have:=Cn (n:=1) fun x hx=>(ih x hx).1
   exact⟨acK,fun _=>acK⟩
 | @alt l h2 hn hk h4 h5 h6 ih =>
   rw[uO (.inr rfl)];show 1≤rC l∧(_→2≤rC l);have:=Cn (n:=1) fun x hx=>(ih x hx).1
   exact⟨acK,fun _=>acK⟩
 | @star y hn hk h4 ih =>
   rw[Nz rfl];show 1≤1+rC [y]∧(_→2≤1+rC [y]);rw[Il];have:=ih.1;exact⟨acK,fun _=>acK⟩
end Go.Wb
