/-
  Sorting an array of integers of the call's own.
-/
import Derived.Test.YtgdehkimfmfofaaGreatJ8
import Derived.Test.YtgdehkimfmfofaaGreatJ10
import Derived.Shelf.SlSortCmp.WholeK
import Derived.Shelf.SortM.Plain
import Derived.Shelf.SortM.SortNone
set_option linter.unusedVariables false
set_option linter.unusedSectionVars false
set_option linter.unusedSimpArgs false
namespace Go.Am
open Go.RowKit Go.Sort Go.Proofs
structure SortsK (P:Program) (f:FuncId) (k:Nat):Prop where
  callable:Callable P f
  none:∀ (p:Option Addr) (cap:Nat) (fv:Value) (w:World),Calls P f #[.slice p 0 cap,fv] w fun e w'=>e=.returned (.tuple #[])∧w'=w
  some:∀ {α:Type} [Inhabited α] (enc:α→List Value) (hk:∀ x,(enc x).length=k) (h1:∀ x,∀ v∈enc x,v.oneCell'=true) (cf:α→α→Int) (hO:SWO (ltOf cf)) (g:Nat) (cb:Array Value) (blk off cap:Nat) (d:Array α) (w:World)
    (eg:∀ args w,(callFunc g args).run P w=.ok (.enter g args) w) (hcmp:CmpLays P g cb enc k cf blk off d.size w) (hH:HoldsK enc k w blk off d) (hblk:blk<w.heap.size) (hsz:d.size<4611686018427387904),
    Calls P f #[.slice (.some ⟨blk,off,.none⟩) d.size cap,.func (.func g) #[] cb] w fun e w' =>
      e=.returned (.tuple #[])∧∃ d' n os,PermIn 0 d.size d d'∧SortedIn (ltOf cf) 0 d.size d'∧w'=sortWorldK enc k w blk off n d' os

theorem sorted_is {β : Type} {p : β → Prop} {cf : β → β → Int} (hirr : ∀ a, p a → ¬ cf a a < 0) (htr : ∀ a b c, p a → p b → p c → cf a b < 0 → cf b c < 0 → cf a c < 0)
    (htot:∀ a b,p a→p b→¬ cf a b<0→¬ cf b a<0→a=b) {l l':List β} (hp:∀ z∈l,p z) (hperm:l'.Perm l) (hs:l'.Pairwise fun x y=>¬ cf y x<0):l'=l.mergeSort fun x y=>!decide (cf y x<0):=by
  have hp':∀ z∈l',p z:=fun z hz=>hp z (hperm.mem_iff.1 hz)
  have hm:=List.mergeSort_perm l (fun x y=>!decide (cf y x<0))
  have hpm:∀ z∈l.mergeSort (fun x y=>!decide (cf y x<0)),p z:=fun z hz=>hp z (hm.mem_iff.1 hz)
  -- the sorted one
  have hsm:(l.mergeSort fun x y=>!decide (cf y x<0)).Pairwise fun x y=>¬ cf y x<0:=by
    let d:List {z // p z}:=l.attach.map fun z=>⟨z.1,hp z.1 z.2⟩
    have hdl:d.map (·.1)=l:=by simp [d,List.map_map,Function.comp_def]
    have h1:=List.pairwise_mergeSort (le:=fun (x y:{z // p z})=>!decide (cf y.1 x.1<0)) (fun a b c h h'=>by
      simp only [Bool.not_eq_true',decide_eq_false_iff_not] at h h' ⊢
      intro hca
      by_cases hab:cf a.1 b.1<0
      · exact h' (htr _ _ _ c.2 a.2 b.2 hca hab)
      · have := htot _ _ a.2 b.2 hab h
        rw [← this] at h'
        exact h' hca) (fun a b=>by
      by_cases hba:cf b.1 a.1<0
      · have : ¬ cf a.1 b.1 < 0 := fun h => hirr _ a.2 (htr _ _ _ a.2 b.2 a.2 h hba)
        simp [this]
      · simp [hba]) d
    have hms:(d.mergeSort fun x y=>!decide (cf y.1 x.1<0)).map (·.1)=l.mergeSort fun x y=>!decide (cf y x<0):=by
      rw [List.map_mergeSort (r:=fun (x y:{z // p z})=>!decide (cf y.1 x.1<0)) (s:=fun x y=>!decide (cf y x<0)) (fun a _ b _=>rfl),hdl]
    rw [← hms,List.pairwise_map]
    exact h1.imp fun h=>by simpa using h
  -- two sorted permutations
  have uniq : ∀ (a b : List β), (∀ z ∈ a, p z) → a.Perm b → a.Pairwise (fun x y => ¬ cf y x < 0) → b.Pairwise (fun x y => ¬ cf y x < 0) → a = b := by
    intro a
    induction a with
    | nil=>intro b _ h _ _;exact (List.nil_perm.1 h).symm
    | cons x a ih =>
      intro b ha h h1 h2
      cases b with
      | nil=>exact absurd h.length_eq (by simp)
      | cons y b =>
        have hb:∀ z∈y :: b,p z:=fun z hz=>ha z (h.mem_iff.2 hz)
        have hxy:x=y:=by
          rcases List.mem_cons.1 (h.mem_iff.1 List.mem_cons_self) with q|q
          · exact q
          · rcases List.mem_cons.1 (h.mem_iff.2 List.mem_cons_self) with q' | q'
            · exact q'.symm
            · exact htot x y (ha x List.mem_cons_self) (hb y List.mem_cons_self) ((List.pairwise_cons.1 h2).1 x q) ((List.pairwise_cons.1 h1).1 y q')
        subst hxy
        rw [ih b (fun z hz=>ha z (List.mem_cons_of_mem _ hz)) (List.Perm.cons_inv h) (List.pairwise_cons.1 h1).2 (List.pairwise_cons.1 h2).2]
  exact uniq l' _ hp' (hperm.trans hm.symm) hs hsm

section
variable {P:Program} {w0:Fr} {M0:Nat→Prop}
variable {o:Oper} {s:St} {x y:Operand} {T T' e:TypeId} {c:Cls} {id t k:Nat}
theorem take_drop_get {α:Type} {l:List α} {a k j:Nat} (h:j<k):((l.drop a).take k)[j]?=l[a+j]?:=by
  rw [List.getElem?_take,if_pos h,List.getElem?_drop]
theorem step_sortK {β : Type} {cells : β → List AV} {cf : β → β → Int} {p : β → Prop} {l : List β} {f g : FuncId} {caps : List AV} {ats : Array TypeId} (hS : SortsK P f k) (ho : o.op = .call { callee := .value (.func f), args := #[x, y], argTypes := ats }) (hd : o.dst = some t) (hn : Nat.blt t s.n = true)
    (hnd:Nodup s.s=true) (hx:s.ev x=some (.own id)) (hl:s.o.lookup id=some (.arr e (l.map fun z=>.agg (cells z)))) (hy:s.ev y=some (.v .pl (.clo g caps))) (hk:szOf P e=some k) (hk0:0<k) (hp:∀ z∈l,p z)
    (hc:∀ a b:β,p a→p b→CallF P g ([.agg (cells a),.agg (cells b)]++caps) (.p (int (cf a b)))) (hg:Callable P g) (hirr:∀ a,p a→¬ cf a a<0) (htr:∀ a b c,p a→p b→p c→cf a b<0→cf b c<0→cf a c<0)
    (htot:∀ a b,p a→p b→¬ cf a b<0→¬ cf b a<0→a=b) (hsz:l.length<4611686018427387904) (hM0:∀ b,M0 b→b<w0.w.heap.size) :
    Step P w0 M0 o s ((s.upd false id (.arr e ((l.mergeSort fun x y=>!decide (cf y x<0)).map fun z=>.agg (cells z)))).put t (.v .pl (.tup []))):=by
  rintro a w Q ⟨E,hs⟩
  have hxv:=hs.ev hx _ _ hl
  have hyv:Rep w (clsM M0 (owned E s.o) .pl) (a.eval y) (.clo g caps):=hs.ev hy
  have hob:=hs.wok.objs id _ hl
  obtain ⟨vals,⟨hown,hownF⟩,hcl,hrp⟩:=hob
  have hck:=cellsOf_of hk
  have hxl:(l.map fun z=>AV.agg (cells z)).length=l.length:=by simp
  have hvlen:vals.length=l.length*k:=by have:=hown.1;rw [hck] at this;simpa using this
  have hcells:∀ z∈l,(cells z).length=k:=fun z hz=>by have:=hcl _ (List.mem_map_of_mem hz);rw [hck] at this;exact this
  have hclk:∀ x∈(l.map fun z=>AV.agg (cells z)),(AV.cells x).length=k:=fun x hx=>by rw [← hck];exact hcl x hx
  have hfl:∀ (i j:Nat) (hi:i<l.length),j<k→(flat (l.map fun z=>AV.agg (cells z)))[i*k+j]?=(cells l[i])[j]?:=fun i j hi hj=>by
    rw [flat_get _ i (.agg (cells l[i])) hclk (by rw [List.getElem?_map,List.getElem?_eq_getElem hi];rfl) j hj];rfl
  generalize hq:a.eval y=q at hyv
  cases hyv with
  | clo _ cb _ hnc hr =>
    have hrun:(execOp a.eval o).run P w=.ok (.enter f #[E.cur id,.func (.func g) #[] cb.toArray]) w:=by
      have:=run_call (P:=P) (ev:=a.eval) (w:=w) (caps:=#[]) ho rfl hS.callable
      simpa [hxv,hq] using this
    unfold Oper.wp
    rw [hrun]
    simp only [Oper.upon]
    rcases hown.2 with ⟨hv,hn0⟩|⟨gb,cap,cur,hv,hgb,hh,hnc',hcm,hcs,htake⟩
    · -- nothing to sort
      have hl0:l=[]:=List.eq_nil_of_length_eq_zero (by simpa using hn0)
      rw [hv]
      refine (hS.none none 0 _ w).mono fun e' w' ⟨he,hw⟩=>?_
      subst he;subst hw
      simp only [hd]
      refine ⟨E,SimE.put ?_ (by simpa [St.upd] using hn) (Rep.tup [] [] rfl (fun j d hd=>by simp at hd))⟩
      refine hs.upd false (fun _=>⟨rfl,.inl ⟨e,_,_,hl,rfl,by simp⟩⟩) hnd hM0 (fun i hi=>⟨rfl,rfl⟩) (.inr rfl) none ⟨rfl,rfl,rfl,Nat.le_refl _,fun _ _ _=>rfl⟩ (fun _=>Nat.le_refl _) (fun g hg'=>by cases hg') (fun b hb=>.inl ⟨_,hl,hb⟩) (fun rep sv=>?_)
      subst hl0
      simp only [List.mergeSort_nil,List.map_nil]
      refine ⟨[],⟨⟨by simp,.inl ⟨hv,rfl⟩⟩,hownF⟩,fun x hx=>(by cases hx),fun j d hd=>(by simp [flat] at hd)⟩
    · rw [hxl] at hv hnc' htake
      rw [hck] at hcs
      rw [hck] at htake
      rcases Nat.eq_zero_or_pos l.length with hl0|hpos
      · -- nothing to sort, with room behind
        have hl0:l=[]:=List.eq_nil_of_length_eq_zero hl0
        rw [hv,hl0]
        refine (hS.none _ cap _ w).mono fun e' w' ⟨he,hw⟩=>?_
        subst he;subst hw
        simp only [hd]
        refine ⟨E,SimE.put ?_ (by simpa [St.upd] using hn) (Rep.tup [] [] rfl (fun j d hd=>by simp at hd))⟩
        refine hs.upd false (fun _=>⟨rfl,.inl ⟨e,_,_,hl,rfl,by simp [hl0]⟩⟩) hnd hM0 (fun i hi=>⟨rfl,rfl⟩) (.inr rfl) none ⟨rfl,rfl,rfl,Nat.le_refl _,fun _ _ _=>rfl⟩ (fun _=>Nat.le_refl _) (fun g hg'=>by cases hg') (fun b hb=>.inl ⟨_,hl,hb⟩) (fun rep sv=>?_)
        simp only [List.mergeSort_nil,List.map_nil]
        refine ⟨[],⟨⟨by simp,.inr ⟨gb,cap,cur,by rw [hv,hl0];rfl,hgb,hh,Nat.zero_le _,hcm,by rw [hck];exact hcs,by simp⟩⟩,hownF⟩,fun x hx=>(by cases hx),fun j d hd=>(by simp [flat] at hd)⟩
      · have hblk : gb < w.heap.size := (Array.getElem?_eq_some_iff.1 hh).1
        have:Inhabited {i // i<l.length}:=⟨⟨0,hpos⟩⟩
        let d:List {i // i<l.length}:=(List.range l.length).attach.map fun z=>⟨z.1,List.mem_range.1 z.2⟩
        have hdl:d.map (·.1)=List.range l.length:=by simp [d,List.map_map,Function.comp_def]
        have hdlen:d.length=l.length:=by simp [d]
        let enc':{i // i<l.length}→List Value:=fun z=>(vals.drop (z.1*k)).take k
        let cf':{i // i<l.length}→{i // i<l.length}→Int:=fun x y=>cf (l[x.1]'x.2) (l[y.1]'y.2)
        have hpl:∀ x:{i // i<l.length},p (l[x.1]'x.2):=fun x=>hp _ (List.getElem_mem x.2)
        have hend:∀ x:{i // i<l.length},x.1*k+k≤l.length*k:=fun x=>by
          have:=Nat.mul_le_mul_right k (show x.1+1≤l.length from x.2);rwa [Nat.add_mul,Nat.one_mul] at this
        have hencl:∀ x,(enc' x).length=k:=fun x=>by have:=hend x;simp only [enc',List.length_take,List.length_drop];omega
        have hencg:∀ x j,j<k→(enc' x)[j]?=vals[x.1*k+j]?:=fun x j hj=>take_drop_get hj
        have hencd:∀ x j,j<k→(enc' x).getD j undef=vals.getD (x.1*k+j) undef:=fun x j hj=>by rw [List.getD_eq_getElem?_getD,List.getD_eq_getElem?_getD,hencg x j hj]
        have hrepx:∀ (x:{i // i<l.length}) j d',(cells (l[x.1]'x.2))[j]?=some d'→j<k∧AV.leaf d'=true∧Rep w (clsM M0 (owned E s.o) .pl) ((enc' x).getD j undef) d':=fun x j d' hd'=>by
          have hj:j<k:=by rw [← hcells _ (List.getElem_mem x.2)];exact (List.getElem?_eq_some_iff.1 hd').1
          have:=hrp (x.1*k+j) d' (by rw [hfl x.1 j x.2 hj];exact hd')
          exact ⟨hj,this.1,by rw [hencd x j hj];exact this.2⟩
        have hone:∀ x,∀ v∈enc' x,v.oneCell'=true:=fun x v hv'=>by
          obtain ⟨j,hj,rfl⟩:=List.getElem_of_mem hv'
          rw [hencl] at hj
          obtain ⟨q1,q2,q3⟩:=hrepx x j ((cells (l[x.1]'x.2))[j]'(by rw [hcells _ (List.getElem_mem x.2)];exact hj)) (List.getElem?_eq_getElem _)
          rw [List.getD_eq_getElem?_getD,List.getElem?_eq_getElem (by rw [hencl];exact hj)] at q3
          exact q3.one q2
        have hO:SWO (ltOf cf'):=by
          refine ⟨fun x=>by simpa [ltOf,cf'] using hirr _ (hpl x),fun x y z h h'=>?_,fun x y z h h'=>?_⟩
          · simp only [ltOf, cf', decide_eq_true_eq] at h h' ⊢
            exact htr _ _ _ (hpl x) (hpl y) (hpl z) h h'
          · simp only [ltOf, cf', decide_eq_false_iff_not] at h h' ⊢
            intro hxz
            by_cases hyx:cf (l[y.1]'y.2) (l[x.1]'x.2)<0
            · exact h' (htr _ _ _ (hpl y) (hpl x) (hpl z) hyx hxz)
            · have := htot _ _ (hpl x) (hpl y) h hyx
              rw [this] at hxz;exact h' hxz
        have hcurj:∀ j (hj:j<l.length*k),cur[j]?=vals[j]?:=fun j hj=>by
          have:(cur.toList.take (l.length*k))[j]?=vals[j]?:=by rw [htake]
          rwa [List.getElem?_take,if_pos hj,Array.getElem?_toList] at this
        have hdj:∀ j (hj:j<l.length),(d.toArray[j]!).1=j:=fun j hj=>by
          rw [getElem!_pos d.toArray j (by simpa [hdlen] using hj)]
          simp [d]
        have hfk:∀ (dk:Array {i // i<l.length}),dk.size=l.length→∀ u,u<l.length*k→some (flatK enc' k dk)[u]! = vals[(dk[u / k]!).1*k+u % k]?:=fun dk hdk u hu=>by
          rw [get_flatK enc' k dk u (by rw [hdk];exact hu)]
          have hm:u % k<k:=Nat.mod_lt _ hk0
          have:=hencg (dk[u / k]!) (u % k) hm
          rw [getElem!_pos _ _ (by rw [hencl];exact hm),← this,List.getElem?_eq_getElem]
        have hH:HoldsK enc' k w gb 0 d.toArray:=by
          intro j hj
          have hj':j<l.length*k:=by simpa [hdlen] using hj
          have hdv:j / k<l.length:=Nat.div_lt_of_lt_mul (by rw [Nat.mul_comm];exact hj')
          refine ⟨?_,?_⟩
          · simp only [World.cell?, hh, Nat.zero_add, _root_.id]
            rw [hfk d.toArray (by simp [hdlen]) j hj',hdj _ hdv]
            show cur[j]?=_
            rw [hcurj j hj']
            congr 1
            rw [Nat.mul_comm,Nat.div_add_mod]
          · simp only [World.frozen?, hh]
            simp
        have hsw:∀ n dk os,sortWorldK enc' k w gb 0 n dk os=sortWorld (α:=Value) _root_.id w gb 0 n (flatK enc' k dk) os:=fun _ _ _=>rfl
        have hcmp:CmpLays P g cb.toArray enc' k cf' gb 0 d.toArray.size w:=by
          intro m os dk hdk x y
          rw [hsw]
          obtain ⟨_,hcall⟩:=hc (l[x.1]'x.2) (l[y.1]'y.2) (hpl x) (hpl y)
          generalize hW:sortWorld (α:=Value) _root_.id w gb 0 m (flatK enc' k dk) os=W
          have hsz2:w.heap.size≤W.heap.size:=by rw [← hW,sortWorld_size];omega
          have hoth:∀ b,b≠gb→b<w.heap.size→W.heap[b]?=w.heap[b]?:=fun b h1 h2=>by rw [← hW];exact sortWorld_other _ _ _ _ _ _ h1 h2
          have hnob:∀ b,¬ clsM M0 (owned E s.o) .pl b→b≠gb:=fun b hb he=>by
            subst he
            exact hb (.inr ⟨id,_,hl,by simp only [ownB,hv,Value.ownBlock]⟩)
          have hagg:∀ x:{i // i<l.length},Rep W (fun _=>False) (.agg (enc' x).toArray) (.agg (cells (l[x.1]'x.2))):=fun x=>by
            refine .agg _ _ (by rw [hencl,hcells _ (List.getElem_mem x.2)]) (fun j d' hd'=>(hrepx x j d' hd').2.1) (fun j d' hd'=>?_)
            exact (hrepx x j d' hd').2.2.mono hsz2 (fun b hb hnM=>hoth b (hnob b hnM) hb) (fun b _ _ hf=>hf)
          have hc2:=hcall W ([.agg (enc' x).toArray,.agg (enc' y).toArray]++cb) (by simp [hnc]) (fun j d' hd'=>?_)
          · have e1 : ([Value.agg (enc' x).toArray, .agg (enc' y).toArray] ++ cb).toArray = #[Value.agg (enc' x).toArray, .agg (enc' y).toArray] ++ cb.toArray := by apply Array.ext'; simp
            rw [e1] at hc2
            refine hc2.mono fun e' w' ⟨v,he,hb,hrv⟩=>⟨?_,grow_of_below hb⟩
            have hrv':Rep w' _ v (int (cf (l[x.1]'x.2) (l[y.1]'y.2))):=hrv
            cases hrv'
            exact he
          · match j with
            | 0=>simp at hd';subst hd';exact hagg x
            | 1=>simp at hd';subst hd';exact hagg y
            | j + 2 =>
              have hd2:caps[j]?=some d':=by simpa using hd'
              have:=hr j d' hd2
              have e2:([Value.agg (enc' x).toArray,.agg (enc' y).toArray]++cb).getD (j+2) undef=cb.getD j undef:=by simp [List.getD_eq_getElem?_getD]
              rw [e2]
              exact this.mono hsz2 (fun b hb hnM=>hoth b (hnob b hnM) hb) (fun b _ _ hf=>hf)
        have eg:∀ args w,(callFunc g args).run P w=.ok (.enter g args) w:=by
          obtain ⟨fn,g1,g2,g3⟩:=hg
          have g3':fn.body≠none:=by intro hn;rw [hn] at g3;cases g3
          have g2' : ¬ fn.name = "runtime.NumGoroutine" := by simpa using g2
          intro args w
          simp [callFunc,g1,g2',g3']
        have hcall:=hS.some enc' hencl hone cf' hO g cb.toArray gb 0 cap d.toArray w eg hcmp hH hblk (by simpa [hdlen] using hsz)
        have hsd:d.toArray.size=l.length:=by simp [hdlen]
        rw [hsd] at hcall
        rw [hv]
        refine hcall.mono fun e' w' ⟨he,dk,n,os,hperm,hsorted,hw⟩=>?_
        subst he
        simp only [hd]
        rw [hsw] at hw
        obtain ⟨hps,_,hpp⟩:=hperm
        have hdks:dk.size=l.length:=by rw [hps,hsd]
        have hml:(dk.toList.map fun z=>l[z.1]'z.2)=l.mergeSort fun x y=>!decide (cf y x<0):=by
          refine sorted_is hirr htr htot hp ?_ ?_
          · have e0 : ∀ (a : Array {i // i < l.length}) n, n = a.size → (a.extract 0 n).toList = a.toList := by rintro a _ rfl; simp
            have e1:=e0 dk l.length hdks.symm
            have e2:=e0 d.toArray l.length hsd.symm
            rw [List.toList_toArray] at e2
            rw [e1,e2] at hpp
            have e3:(d.map fun z=>l[z.1]'z.2)=l:=by
              apply List.ext_getElem?
              intro j
              rcases Nat.lt_or_ge j l.length with hj|hj
              · simp [d,hj]
              · rw [List.getElem?_eq_none (by simp [hdlen];omega),List.getElem?_eq_none hj]
            have:=hpp.map fun z=>l[z.1]'z.2
            rwa [e3] at this
          · rw [List.pairwise_map, List.pairwise_iff_getElem]
            intro i j hi hj hij
            have:=hsorted i j (Nat.zero_le _) hij (by simpa [hdks] using hj)
            rw [getElem!_pos dk j (by simpa using hj),getElem!_pos dk i (by simpa using hi)] at this
            simpa [ltOf,cf'] using this
        rw [← hml]
        have hgr:w.grownBy w' (some gb):=by
          rw [hw]
          exact ⟨rfl,rfl,rfl,by rw [sortWorld_size];omega,fun k hk hne=>sortWorld_other _ _ _ _ _ _ (fun he=>hne (by rw [he])) hk⟩
        have hdrawn:w.drawn≤w'.drawn:=by rw [hw];simp [sortWorld,grow,putRow,mapBlock,Sort.ahead]
        have hhw:w'.heap[gb]?=some (.cells (putCells _root_.id 0 (flatK enc' k dk) cur) e (0,0)):=by
          have:=sortWorld_same (α:=Value) (enc:=_root_.id) w gb n (flatK enc' k dk) os (off:=0) hh
          rw [hw];exact this
        refine ⟨E,SimE.put ?_ (by simpa [St.upd] using hn) (Rep.tup [] [] rfl (fun j d hd=>by simp at hd))⟩
        refine hs.upd false (fun _=>⟨rfl,.inl ⟨e,_,_,hl,rfl,by simp [hdks]⟩⟩) hnd hM0 (fun i hi=>⟨rfl,rfl⟩) (.inr rfl) (some gb) hgr (fun _=>hdrawn) (fun g' hg'=>⟨_,hl,by simp only [Option.some.injEq] at hg';subst hg';simp only [ownB,hv,Value.ownBlock]⟩) (fun b hb=>.inl ⟨_,hl,hb⟩) (fun rep sv=>?_)
        have hnlen:(flatK enc' k dk).size=l.length*k:=by rw [size_flatK,hdks]
        have hcl2:∀ z∈((dk.toList.map fun z=>l[z.1]'z.2).map fun z=>AV.agg (cells z)),(AV.cells z).length=k:=fun z hz=>by
          rw [List.mem_map] at hz
          obtain ⟨q,hq,rfl⟩:=hz
          rw [List.mem_map] at hq
          obtain ⟨u,_,rfl⟩:=hq
          exact hcells _ (List.getElem_mem u.2)
        refine ⟨(flatK enc' k dk).toList,⟨⟨by rw [hck];simp [hdks],.inr ⟨gb,cap,_,by rw [hv];simp [hdks],hgb,hhw,by simpa [hdks] using hnc',hcm,by rw [hck];simpa [putCells] using hcs,?_⟩⟩,hownF⟩,fun z hz=>by rw [hck];exact hcl2 z hz,fun j d' hd'=>?_⟩
        · rw [hck]
          apply List.ext_getElem?
          intro j
          simp only [List.length_map,Array.length_toList,hdks]
          rw [List.getElem?_take]
          by_cases hj:j<l.length*k
          · have hcj : cur[j]? = some (vals[j]'(by rw [hvlen]; exact hj)) := by rw [hcurj j hj, List.getElem?_eq_getElem]
            rw [if_pos hj,Array.getElem?_toList]
            simp only [putCells,Array.getElem?_mapIdx,hcj,Option.map_some,Nat.zero_le,true_and,Nat.zero_add,hnlen,hj,if_true,Nat.sub_zero,_root_.id]
            rw [Array.getElem?_toList,Array.getElem?_eq_getElem (by omega),getElem!_pos _ j (by omega)]
          · rw [if_neg hj,List.getElem?_eq_none (by simp [hnlen];omega)]
        · have hj : j < l.length * k := by
            have:=(List.getElem?_eq_some_iff.1 hd').1
            rw [flat_length _ hcl2] at this
            simpa [hdks] using this
          have hdv:j / k<l.length:=Nat.div_lt_of_lt_mul (by rw [Nat.mul_comm];exact hj)
          have hm:j % k<k:=Nat.mod_lt _ hk0
          have hjk:j / k*k+j % k=j:=by rw [Nat.mul_comm,Nat.div_add_mod]
          have hg1:((dk.toList.map fun z=>l[z.1]'z.2).map fun z=>AV.agg (cells z))[j / k]?=some (.agg (cells (l[(dk[j / k]!).1]'(dk[j / k]!).2))):=by
            rw [List.getElem?_map,List.getElem?_map,Array.getElem?_toList,Array.getElem?_eq_getElem (by omega),getElem!_pos dk _ (by omega)];rfl
          have hd2:=flat_get _ (j / k) _ hcl2 hg1 (j % k) hm
          rw [hjk,hd'] at hd2
          obtain ⟨_,q2,q3⟩:=hrepx (dk[j / k]!) (j % k) d' hd2.symm
          refine ⟨q2,?_⟩
          have e1:(flatK enc' k dk).toList.getD j undef=(enc' (dk[j / k]!)).getD (j % k) undef:=by
            rw [hencd _ _ hm,List.getD_eq_getElem?_getD,List.getD_eq_getElem?_getD,← hfk dk hdks j hj,Array.getElem?_toList,Array.getElem?_eq_getElem (by omega),getElem!_pos _ j (by omega)]
          rw [e1]
          exact rep _ _ _ q3 (by decide)
end
end Go.Am

namespace Go.Am
open Go.RowKit Go.Sort Go.Proofs
structure SortsZ (P:Program) (f:FuncId):Prop where
  callable:Callable P f
  none:∀ (p:Option Addr) (cap:Nat) (w:World),Calls P f #[.slice p 0 cap] w fun e w'=>e=.returned (.tuple #[])∧w'=w
  some:∀ (blk off cap:Nat) (zs:List Int) (w:World) (hH:Holds (Value.int .i64) w blk off zs.toArray) (hblk:blk<w.heap.size) (hsz:zs.length<4611686018427387904),
    Calls P f #[.slice (.some ⟨blk,off,.none⟩) zs.length cap] w fun e w' =>
      e=.returned (.tuple #[])∧∃ n os,w'=grow (putRow (Value.int .i64) (Sort.ahead w n) blk off (zs.mergeSort fun x y=>decide (x≤y)).toArray) os
section
variable {P:Program} {w0:Fr} {M0:Nat→Prop}
variable {o:Oper} {s:St} {x y:Operand} {T T' e:TypeId} {c:Cls} {id t:Nat}
theorem step_sortZ {l : List Int} {f : FuncId} {ats : Array TypeId} (hS : SortsZ P f) (ho : o.op = .call { callee := .value (.func f), args := #[x], argTypes := ats }) (hd : o.dst = some t) (hn : Nat.blt t s.n = true)
    (hnd:Nodup s.s=true) (hx:s.ev x=some (.own id)) (hl:s.o.lookup id=some (.arr e (l.map int))) (hk:szOf P e=some 1) (hsz:l.length<4611686018427387904) (hM0:∀ b,M0 b→b<w0.w.heap.size) :
    Step P w0 M0 o s ((s.upd false id (.arr e ((l.mergeSort fun x y=>decide (x≤y)).map int))).put t (.v .pl (.tup []))):=by
  rintro a w Q ⟨E,hs⟩
  have hxv:=hs.ev hx _ _ hl
  have hob:=hs.wok.objs id _ hl
  obtain ⟨vals,⟨hown,hownF⟩,hcl,hrp⟩:=hob
  have hck:=cellsOf_of hk
  have hxl:(l.map int).length=l.length:=by simp
  have hvals:vals=l.map (Value.int .i64):=by
    apply List.ext_getElem?
    intro j
    have hlen:vals.length=l.length:=by have:=hown.1;rw [hck] at this;simpa using this
    rcases Nat.lt_or_ge j l.length with hj|hj
    · have h2 := (hrp j (.sc (.int .i64 l[j])) (by rw [show l.map int = l.map fun z => AV.sc (Value.int .i64 z) from rfl, flat_sv, List.getElem?_map, List.getElem?_eq_getElem hj]; rfl)).2
      rw [List.getD_eq_getElem?_getD,List.getElem?_eq_getElem (by omega),Option.getD_some] at h2
      rw [List.getElem?_eq_getElem (by omega),List.getElem?_map,List.getElem?_eq_getElem hj,Option.map_some]
      congr 1
      generalize vals[j]=u at h2 ⊢
      cases h2;rfl
    · rw [List.getElem?_eq_none (by omega),List.getElem?_eq_none (by simpa using hj)]
  have hrun:(execOp a.eval o).run P w=.ok (.enter f #[E.cur id]) w:=by
    have:=run_call (P:=P) (ev:=a.eval) (w:=w) (caps:=#[]) ho rfl hS.callable
    simpa [hxv] using this
  unfold Oper.wp
  rw [hrun]
  simp only [Oper.upon]
  rcases hown.2 with ⟨hv,hn0⟩|⟨gb,cap,cur,hv,hgb,hh,hnc',hcm,hcs,htake⟩
  · -- nothing to sort
    have hl0:l=[]:=List.eq_nil_of_length_eq_zero (by simpa using hn0)
    rw [hv]
    refine (hS.none none 0 w).mono fun e' w' ⟨he,hw⟩=>?_
    subst he;subst hw
    simp only [hd]
    refine ⟨E,SimE.put ?_ (by simpa [St.upd] using hn) (Rep.tup [] [] rfl (fun j d hd=>by simp at hd))⟩
    refine hs.upd false (fun _=>⟨rfl,.inl ⟨e,_,_,hl,rfl,by simp⟩⟩) hnd hM0 (fun i hi=>⟨rfl,rfl⟩) (.inr rfl) none ⟨rfl,rfl,rfl,Nat.le_refl _,fun _ _ _=>rfl⟩ (fun _=>Nat.le_refl _) (fun g hg'=>by cases hg') (fun b hb=>.inl ⟨_,hl,hb⟩) (fun rep sv=>?_)
    subst hl0
    simp only [List.mergeSort_nil,List.map_nil]
    refine ⟨[],⟨⟨by simp,.inl ⟨hv,rfl⟩⟩,hownF⟩,fun x hx=>(by cases hx),fun j d hd=>(by simp [flat] at hd)⟩
  · rw [hxl] at hv hnc' htake
    rw [hck,Nat.mul_one] at hcs
    rw [hck,Nat.mul_one,hvals] at htake
    rcases Nat.eq_zero_or_pos l.length with hl0|hpos
    · -- nothing to sort, with room behind
      have hl0:l=[]:=List.eq_nil_of_length_eq_zero hl0
      rw [hv,hl0]
      refine (hS.none _ cap w).mono fun e' w' ⟨he,hw⟩=>?_
      subst he;subst hw
      simp only [hd]
      refine ⟨E,SimE.put ?_ (by simpa [St.upd] using hn) (Rep.tup [] [] rfl (fun j d hd=>by simp at hd))⟩
      refine hs.upd false (fun _=>⟨rfl,.inl ⟨e,_,_,hl,rfl,by simp [hl0]⟩⟩) hnd hM0 (fun i hi=>⟨rfl,rfl⟩) (.inr rfl) none ⟨rfl,rfl,rfl,Nat.le_refl _,fun _ _ _=>rfl⟩ (fun _=>Nat.le_refl _) (fun g hg'=>by cases hg') (fun b hb=>.inl ⟨_,hl,hb⟩) (fun rep sv=>?_)
      simp only [List.mergeSort_nil,List.map_nil]
      refine ⟨[],⟨⟨by simp,.inr ⟨gb,cap,cur,by rw [hv,hl0];rfl,hgb,hh,Nat.zero_le _,hcm,by rw [hck,Nat.mul_one];exact hcs,by simp⟩⟩,hownF⟩,fun x hx=>(by cases hx),fun j d hd=>(by simp [flat] at hd)⟩
    · have hblk : gb < w.heap.size := (Array.getElem?_eq_some_iff.1 hh).1
      have hcurj:∀ j (hj:j<l.length),cur[j]?=some (Value.int .i64 l[j]):=fun j hj=>by
        have:(cur.toList.take l.length)[j]?=some (Value.int .i64 l[j]):=by rw [htake,List.getElem?_map,List.getElem?_eq_getElem hj];rfl
        rw [List.getElem?_take,if_pos hj,Array.getElem?_toList] at this
        exact this
      have hH:Holds (Value.int .i64) w gb 0 l.toArray:=by
        intro j hj
        have hj':j<l.length:=by simpa using hj
        refine ⟨?_,?_⟩
        · simp only [World.cell?, hh, Nat.zero_add]
          rw [getElem!_pos l.toArray j hj]
          simpa using hcurj j hj'
        · simp only [World.frozen?, hh]
          simp
      have hcall:=hS.some gb 0 cap l w hH hblk hsz
      rw [hv]
      refine hcall.mono fun e' w' ⟨he,n,os,hw⟩=>?_
      subst he
      simp only [hd]
      generalize hml:(l.mergeSort fun x y=>decide (x≤y))=ml at hw
      have hmll:ml.length=l.length:=by rw [← hml];simp
      have hw':w'=sortWorld (Value.int .i64) w gb 0 n ml.toArray os:=hw
      have hdrawn:w.drawn≤w'.drawn:=by rw [hw'];simp [sortWorld,grow,putRow,mapBlock,Sort.ahead]
      have hgr:w.grownBy w' (some gb):=by
        rw [hw']
        exact ⟨rfl,rfl,rfl,by rw [sortWorld_size];omega,fun k hk hne=>sortWorld_other _ _ _ _ _ _ (fun he=>hne (by rw [he])) hk⟩
      have hhw:w'.heap[gb]?=some (.cells (putCells (Value.int .i64) 0 ml.toArray cur) e (0,0)):=by
        have:=sortWorld_same (enc:=Value.int .i64) w gb n ml.toArray os (off:=0) hh
        rw [hw'];exact this
      refine ⟨E,SimE.put ?_ (by simpa [St.upd] using hn) (Rep.tup [] [] rfl (fun j d hd=>by simp at hd))⟩
      refine hs.upd false (fun _=>⟨rfl,.inl ⟨e,_,_,hl,rfl,by simp [hmll]⟩⟩) hnd hM0 (fun i hi=>⟨rfl,rfl⟩) (.inr rfl) (some gb) hgr (fun _=>hdrawn) (fun g' hg'=>⟨_,hl,by simp only [Option.some.injEq] at hg';subst hg';simp only [ownB,hv,Value.ownBlock]⟩) (fun b hb=>.inl ⟨_,hl,hb⟩) (fun rep sv=>?_)
      refine ⟨ml.map (Value.int .i64),⟨⟨by rw [hck];simp,.inr ⟨gb,cap,_,by rw [hv];simp [hmll],hgb,hhw,by simpa [hmll] using hnc',hcm,by rw [hck,Nat.mul_one];simpa [putCells] using hcs,?_⟩⟩,hownF⟩,?_,fun j d' hd'=>?_⟩
      · rw [hck]
        apply List.ext_getElem?
        intro j
        simp only [List.length_map,Nat.mul_one,hmll]
        rw [List.getElem?_take]
        by_cases hj:j<l.length
        · rw [if_pos hj, Array.getElem?_toList]
          simp only [putCells,Array.getElem?_mapIdx,hcurj j hj,Option.map_some,Nat.zero_le,true_and,Nat.zero_add,List.size_toArray,hmll,hj,if_true,Nat.sub_zero]
          rw [List.getElem?_map,List.getElem?_eq_getElem (by omega),Option.map_some,getElem!_pos ml.toArray j (by simp;omega)]
          simp
        · rw [if_neg hj,List.getElem?_eq_none (by simp;omega)]
      · intro x hx
        rw [List.mem_map] at hx
        obtain ⟨z,_,rfl⟩:=hx
        rw [hck];rfl
      · rw [show ml.map int = ml.map fun z => AV.sc (Value.int .i64 z) from rfl, flat_sv, List.getElem?_map, Option.map_eq_some_iff] at hd'
        obtain ⟨z,hz,rfl⟩:=hd'
        refine ⟨rfl,?_⟩
        rw [List.getD_eq_getElem?_getD,List.getElem?_map,hz]
        exact .sc _ rfl
end
end Go.Am

