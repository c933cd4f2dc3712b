/-
  Plain functions: valid alphabets.
-/
import Derived.Test.YtgdehkimfmfofaaGreatJ16
import Derived.Shelf.SlicesQ.Reverse
import Derived.Test.YtgdehkimfmfofaaGreatJ15
set_option linter.unusedVariables false
set_option linter.unusedSectionVars false
set_option linter.unusedSimpArgs false
namespace Go.Am
open Go.RowKit Go.Sort Go.Proofs
structure RevK (P:Program) (f:FuncId) (k:Nat):Prop where
  callable:Callable P f
  none:∀ (p:Option Addr) (cap:Nat) (w:World),Calls P f #[.slice p 0 cap] w fun e w'=>e=.returned (.tuple #[])∧w'=w
  some:∀ {α:Type} [Inhabited α] (enc:α→List Value) (hk:∀ x,(enc x).length=k) (h1:∀ x,∀ v∈enc x,v.oneCell'=true) (blk off cap:Nat) (d:Array α) (w:World) (hH:HoldsK enc k w blk off d) (hsz:d.size≤9223372036854775807),
    Calls P f #[.slice (.some ⟨blk,off,.none⟩) d.size cap] w fun e w'=>e=.returned (.tuple #[])∧∃ n,w'=putRowK enc k (Sort.ahead w n) blk off d.reverse
section
variable {P:Program} {w0:Fr} {M0:Nat→Prop}
variable {o:Oper} {s:St} {x y:Operand} {T T' e:TypeId} {c:Cls} {id t k:Nat}
theorem step_revK {β : Type} {cells : β → List AV} {l : List β} {f : FuncId} {ats : Array TypeId} (hS : RevK P f k) (ho : o.op = .call { callee := .value (.func f), args := #[x], argTypes := ats }) (hd : o.dst = some t) (hn : Nat.blt t s.n = true)
    (hnd:Nodup s.s=true) (hx:s.ev x=some (.own id)) (hl:s.o.lookup id=some (.arr e (l.map fun z=>.agg (cells z)))) (hk:szOf P e=some k) (hk0:0<k)
    (hsz:l.length<4611686018427387904) (hM0:∀ b,M0 b→b<w0.w.heap.size) :
    Step P w0 M0 o s ((s.upd false id (.arr e (l.reverse.map fun z=>.agg (cells z)))).put t (.v .pl (.tup []))):=by
  rintro a w Q ⟨E,hs⟩
  have hxv:=hs.ev hx _ _ hl
  have hob:=hs.wok.objs id _ hl
  obtain ⟨vals,⟨hown,hownF⟩,hcl,hrp⟩:=hob
  have hck:=cellsOf_of hk
  have hxl:(l.map fun z=>AV.agg (cells z)).length=l.length:=by simp
  have hvlen:vals.length=l.length*k:=by have:=hown.1;rw [hck] at this;simpa using this
  have hcells:∀ z∈l,(cells z).length=k:=fun z hz=>by have:=hcl _ (List.mem_map_of_mem hz);rw [hck] at this;exact this
  have hclk:∀ x∈(l.map fun z=>AV.agg (cells z)),(AV.cells x).length=k:=fun x hx=>by rw [← hck];exact hcl x hx
  have hfl:∀ (i j:Nat) (hi:i<l.length),j<k→(flat (l.map fun z=>AV.agg (cells z)))[i*k+j]?=(cells l[i])[j]?:=fun i j hi hj=>by
    rw [flat_get _ i (.agg (cells l[i])) hclk (by rw [List.getElem?_map,List.getElem?_eq_getElem hi];rfl) j hj];rfl
  · skip
    have hrun:(execOp a.eval o).run P w=.ok (.enter f #[E.cur id]) w:=by
      have:=run_call (P:=P) (ev:=a.eval) (w:=w) (caps:=#[]) ho rfl hS.callable
      simpa [hxv] using this
    unfold Oper.wp
    rw [hrun]
    simp only [Oper.upon]
    rcases hown.2 with ⟨hv,hn0⟩|⟨gb,cap,cur,hv,hgb,hh,hnc',hcm,hcs,htake⟩
    · -- nothing to sort
      have hl0:l=[]:=List.eq_nil_of_length_eq_zero (by simpa using hn0)
      rw [hv]
      refine (hS.none none 0 w).mono fun e' w' ⟨he,hw⟩=>?_
      subst he;subst hw
      simp only [hd]
      refine ⟨E,SimE.put ?_ (by simpa [St.upd] using hn) (Rep.tup [] [] rfl (fun j d hd=>by simp at hd))⟩
      refine hs.upd false (fun _=>⟨rfl,.inl ⟨e,_,_,hl,rfl,by simp⟩⟩) hnd hM0 (fun i hi=>⟨rfl,rfl⟩) (.inr rfl) none ⟨rfl,rfl,rfl,Nat.le_refl _,fun _ _ _=>rfl⟩ (fun _=>Nat.le_refl _) (fun g hg'=>by cases hg') (fun b hb=>.inl ⟨_,hl,hb⟩) (fun rep sv=>?_)
      subst hl0
      simp only [List.reverse_nil,List.map_nil]
      refine ⟨[],⟨⟨by simp,.inl ⟨hv,rfl⟩⟩,hownF⟩,fun x hx=>(by cases hx),fun j d hd=>(by simp [flat] at hd)⟩
    · rw [hxl] at hv hnc' htake
      rw [hck] at hcs
      rw [hck] at htake
      rcases Nat.eq_zero_or_pos l.length with hl0|hpos
      · -- nothing to sort, with room behind
        have hl0:l=[]:=List.eq_nil_of_length_eq_zero hl0
        rw [hv,hl0]
        refine (hS.none _ cap w).mono fun e' w' ⟨he,hw⟩=>?_
        subst he;subst hw
        simp only [hd]
        refine ⟨E,SimE.put ?_ (by simpa [St.upd] using hn) (Rep.tup [] [] rfl (fun j d hd=>by simp at hd))⟩
        refine hs.upd false (fun _=>⟨rfl,.inl ⟨e,_,_,hl,rfl,by simp [hl0]⟩⟩) hnd hM0 (fun i hi=>⟨rfl,rfl⟩) (.inr rfl) none ⟨rfl,rfl,rfl,Nat.le_refl _,fun _ _ _=>rfl⟩ (fun _=>Nat.le_refl _) (fun g hg'=>by cases hg') (fun b hb=>.inl ⟨_,hl,hb⟩) (fun rep sv=>?_)
        simp only [List.reverse_nil,List.map_nil]
        refine ⟨[],⟨⟨by simp,.inr ⟨gb,cap,cur,by rw [hv,hl0];rfl,hgb,hh,Nat.zero_le _,hcm,by rw [hck];exact hcs,by simp⟩⟩,hownF⟩,fun x hx=>(by cases hx),fun j d hd=>(by simp [flat] at hd)⟩
      · have hblk : gb < w.heap.size := (Array.getElem?_eq_some_iff.1 hh).1
        have:Inhabited {i // i<l.length}:=⟨⟨0,hpos⟩⟩
        let d:List {i // i<l.length}:=(List.range l.length).attach.map fun z=>⟨z.1,List.mem_range.1 z.2⟩
        have hdl:d.map (·.1)=List.range l.length:=by simp [d,List.map_map,Function.comp_def]
        have hdlen:d.length=l.length:=by simp [d]
        let enc':{i // i<l.length}→List Value:=fun z=>(vals.drop (z.1*k)).take k
        have hend:∀ x:{i // i<l.length},x.1*k+k≤l.length*k:=fun x=>by
          have:=Nat.mul_le_mul_right k (show x.1+1≤l.length from x.2);rwa [Nat.add_mul,Nat.one_mul] at this
        have hencl:∀ x,(enc' x).length=k:=fun x=>by have:=hend x;simp only [enc',List.length_take,List.length_drop];omega
        have hencg:∀ x j,j<k→(enc' x)[j]?=vals[x.1*k+j]?:=fun x j hj=>take_drop_get hj
        have hencd:∀ x j,j<k→(enc' x).getD j undef=vals.getD (x.1*k+j) undef:=fun x j hj=>by rw [List.getD_eq_getElem?_getD,List.getD_eq_getElem?_getD,hencg x j hj]
        have hrepx:∀ (x:{i // i<l.length}) j d',(cells (l[x.1]'x.2))[j]?=some d'→j<k∧AV.leaf d'=true∧Rep w (clsM M0 (owned E s.o) .pl) ((enc' x).getD j undef) d':=fun x j d' hd'=>by
          have hj:j<k:=by rw [← hcells _ (List.getElem_mem x.2)];exact (List.getElem?_eq_some_iff.1 hd').1
          have:=hrp (x.1*k+j) d' (by rw [hfl x.1 j x.2 hj];exact hd')
          exact ⟨hj,this.1,by rw [hencd x j hj];exact this.2⟩
        have hone:∀ x,∀ v∈enc' x,v.oneCell'=true:=fun x v hv'=>by
          obtain ⟨j,hj,rfl⟩:=List.getElem_of_mem hv'
          rw [hencl] at hj
          obtain ⟨q1,q2,q3⟩:=hrepx x j ((cells (l[x.1]'x.2))[j]'(by rw [hcells _ (List.getElem_mem x.2)];exact hj)) (List.getElem?_eq_getElem _)
          rw [List.getD_eq_getElem?_getD,List.getElem?_eq_getElem (by rw [hencl];exact hj)] at q3
          exact q3.one q2
        have hcurj:∀ j (hj:j<l.length*k),cur[j]?=vals[j]?:=fun j hj=>by
          have:(cur.toList.take (l.length*k))[j]?=vals[j]?:=by rw [htake]
          rwa [List.getElem?_take,if_pos hj,Array.getElem?_toList] at this
        have hdj:∀ j (hj:j<l.length),(d.toArray[j]!).1=j:=fun j hj=>by
          rw [getElem!_pos d.toArray j (by simpa [hdlen] using hj)]
          simp [d]
        have hfk:∀ (dk:Array {i // i<l.length}),dk.size=l.length→∀ u,u<l.length*k→some (flatK enc' k dk)[u]! = vals[(dk[u / k]!).1*k+u % k]?:=fun dk hdk u hu=>by
          rw [get_flatK enc' k dk u (by rw [hdk];exact hu)]
          have hm:u % k<k:=Nat.mod_lt _ hk0
          have:=hencg (dk[u / k]!) (u % k) hm
          rw [getElem!_pos _ _ (by rw [hencl];exact hm),← this,List.getElem?_eq_getElem]
        have hH:HoldsK enc' k w gb 0 d.toArray:=by
          intro j hj
          have hj':j<l.length*k:=by simpa [hdlen] using hj
          have hdv:j / k<l.length:=Nat.div_lt_of_lt_mul (by rw [Nat.mul_comm];exact hj')
          refine ⟨?_,?_⟩
          · simp only [World.cell?, hh, Nat.zero_add, _root_.id]
            rw [hfk d.toArray (by simp [hdlen]) j hj',hdj _ hdv]
            show cur[j]?=_
            rw [hcurj j hj']
            congr 1
            rw [Nat.mul_comm,Nat.div_add_mod]
          · simp only [World.frozen?, hh]
            simp
        have hsw:∀ n dk os,sortWorldK enc' k w gb 0 n dk os=sortWorld (α:=Value) _root_.id w gb 0 n (flatK enc' k dk) os:=fun _ _ _=>rfl
        have hcall:=hS.some enc' hencl hone gb 0 cap d.toArray w hH (by simp [hdlen];omega)
        have hsd:d.toArray.size=l.length:=by simp [hdlen]
        rw [hsd] at hcall
        rw [hv]
        refine hcall.mono fun e' w' ⟨he,n,hw⟩=>?_
        subst he
        simp only [hd]
        obtain ⟨dk,hdk⟩:∃ dk,dk=d.toArray.reverse:=⟨_,rfl⟩
        rw [← hdk] at hw
        have hw:w'=sortWorld (α:=Value) _root_.id w gb 0 n (flatK enc' k dk) #[]:=by rw [hw];unfold sortWorld;rw [grow_empty];rfl
        have hdks:dk.size=l.length:=by rw [hdk,Array.size_reverse,hsd]
        have hml:(dk.toList.map fun z=>l[z.1]'z.2)=l.reverse:=by
          have e3:(d.map fun z=>l[z.1]'z.2)=l:=by
            apply List.ext_getElem?
            intro j
            rcases Nat.lt_or_ge j l.length with hj|hj
            · simp [d,hj]
            · rw [List.getElem?_eq_none (by simp [hdlen];omega),List.getElem?_eq_none hj]
          rw [hdk,Array.toList_reverse,List.map_reverse,List.toList_toArray,e3]
        rw [← hml]
        have hgr:w.grownBy w' (some gb):=by
          rw [hw]
          exact ⟨rfl,rfl,rfl,by rw [sortWorld_size];omega,fun k hk hne=>sortWorld_other _ _ _ _ _ _ (fun he=>hne (by rw [he])) hk⟩
        have hdrawn:w.drawn≤w'.drawn:=by rw [hw];simp [sortWorld,grow,putRow,mapBlock,Sort.ahead]
        have hhw:w'.heap[gb]?=some (.cells (putCells _root_.id 0 (flatK enc' k dk) cur) e (0,0)):=by
          have:=sortWorld_same (α:=Value) (enc:=_root_.id) w gb n (flatK enc' k dk) #[] (off:=0) hh
          rw [hw];exact this
        refine ⟨E,SimE.put ?_ (by simpa [St.upd] using hn) (Rep.tup [] [] rfl (fun j d hd=>by simp at hd))⟩
        refine hs.upd false (fun _=>⟨rfl,.inl ⟨e,_,_,hl,rfl,by simp [hdks]⟩⟩) hnd hM0 (fun i hi=>⟨rfl,rfl⟩) (.inr rfl) (some gb) hgr (fun _=>hdrawn) (fun g' hg'=>⟨_,hl,by simp only [Option.some.injEq] at hg';subst hg';simp only [ownB,hv,Value.ownBlock]⟩) (fun b hb=>.inl ⟨_,hl,hb⟩) (fun rep sv=>?_)
        have hnlen:(flatK enc' k dk).size=l.length*k:=by rw [size_flatK,hdks]
        have hcl2:∀ z∈((dk.toList.map fun z=>l[z.1]'z.2).map fun z=>AV.agg (cells z)),(AV.cells z).length=k:=fun z hz=>by
          rw [List.mem_map] at hz
          obtain ⟨q,hq,rfl⟩:=hz
          rw [List.mem_map] at hq
          obtain ⟨u,_,rfl⟩:=hq
          exact hcells _ (List.getElem_mem u.2)
        refine ⟨(flatK enc' k dk).toList,⟨⟨by rw [hck];simp [hdks],.inr ⟨gb,cap,_,by rw [hv];simp [hdks],hgb,hhw,by simpa [hdks] using hnc',hcm,by rw [hck];simpa [putCells] using hcs,?_⟩⟩,hownF⟩,fun z hz=>by rw [hck];exact hcl2 z hz,fun j d' hd'=>?_⟩
        · rw [hck]
          apply List.ext_getElem?
          intro j
          simp only [List.length_map,Array.length_toList,hdks]
          rw [List.getElem?_take]
          by_cases hj:j<l.length*k
          · have hcj : cur[j]? = some (vals[j]'(by rw [hvlen]; exact hj)) := by rw [hcurj j hj, List.getElem?_eq_getElem]
            rw [if_pos hj,Array.getElem?_toList]
            simp only [putCells,Array.getElem?_mapIdx,hcj,Option.map_some,Nat.zero_le,true_and,Nat.zero_add,hnlen,hj,if_true,Nat.sub_zero,_root_.id]
            rw [Array.getElem?_toList,Array.getElem?_eq_getElem (by omega),getElem!_pos _ j (by omega)]
          · rw [if_neg hj,List.getElem?_eq_none (by simp [hnlen];omega)]
        · have hj : j < l.length * k := by
            have:=(List.getElem?_eq_some_iff.1 hd').1
            rw [flat_length _ hcl2] at this
            simpa [hdks] using this
          have hdv:j / k<l.length:=Nat.div_lt_of_lt_mul (by rw [Nat.mul_comm];exact hj)
          have hm:j % k<k:=Nat.mod_lt _ hk0
          have hjk:j / k*k+j % k=j:=by rw [Nat.mul_comm,Nat.div_add_mod]
          have hg1:((dk.toList.map fun z=>l[z.1]'z.2).map fun z=>AV.agg (cells z))[j / k]?=some (.agg (cells (l[(dk[j / k]!).1]'(dk[j / k]!).2))):=by
            rw [List.getElem?_map,List.getElem?_map,Array.getElem?_toList,Array.getElem?_eq_getElem (by omega),getElem!_pos dk _ (by omega)];rfl
          have hd2:=flat_get _ (j / k) _ hcl2 hg1 (j % k) hm
          rw [hjk,hd'] at hd2
          obtain ⟨_,q2,q3⟩:=hrepx (dk[j / k]!) (j % k) d' hd2.symm
          refine ⟨q2,?_⟩
          have e1:(flatK enc' k dk).toList.getD j undef=(enc' (dk[j / k]!)).getD (j % k) undef:=by
            rw [hencd _ _ hm,List.getD_eq_getElem?_getD,List.getD_eq_getElem?_getD,← hfk dk hdks j hj,Array.getElem?_toList,Array.getElem?_eq_getElem (by omega),getElem!_pos _ j (by omega)]
          rw [e1]
          exact rep _ _ _ q3 (by decide)
end
end Go.Am

namespace Go.Wb
open Go.Am
structure Tok where
  kind:Int
  atom:Rx
  pos:Int
instance:Inhabited Tok:=⟨⟨0,noneRx,0⟩⟩
abbrev tok (t:Tok):AV:=.agg [.sc (.int .u8 t.kind),int t.atom.kind,ints t.atom.syms,.sl (Rx.avs t.atom.kids),int t.pos]
abbrev toks (l:List Tok):AV:=.sl (l.map tok)
structure PS where
  l:List Tok
  bad:Int
def PS.hd (s:PS):Int:=(s.l.getD 0 default).kind
def PS.adv (s:PS):PS:=⟨s.l.drop 1,s.bad⟩
def PS.fail (s:PS):PS:=if s.bad<0 then ⟨s.l,(s.l.getD 0 default).pos⟩ else s
def seqLp (post:PS→Rx×PS):Nat→PS→List Rx×PS
  | 0,s=>([],s)
  | n+1,s=>if s.bad<0∧(s.hd=97∨s.hd=40) then ((post s).1 :: (seqLp post n (post s).2).1,(seqLp post n (post s).2).2) else ([],s)
def pSeq (post:PS→Rx×PS) (s:PS):Rx×PS:=(seqN (seqLp post s.l.length s).1,(seqLp post s.l.length s).2)
theorem seqLp_stop {post:PS→Rx×PS} {k:Nat} {s:PS} (h:¬ (s.bad<0∧(s.hd=97∨s.hd=40))):seqLp post k s=([],s):=by
  cases k with
  | zero=>rfl
  | succ k=>rw [seqLp,if_neg h]
theorem seqLp_step {post:PS→Rx×PS} {k:Nat} {s:PS} (h:s.bad<0∧(s.hd=97∨s.hd=40)):seqLp post (k+1) s=((post s).1 :: (seqLp post k (post s).2).1,(seqLp post k (post s).2).2):=by rw [seqLp,if_pos h]
def altLp (seq:PS→Rx×PS):Nat→PS→List Rx×PS
  | 0,s=>([],s)
  | n+1,s=>if s.bad<0∧s.hd=124 then ((seq s.adv).1 :: (altLp seq n (seq s.adv).2).1,(altLp seq n (seq s.adv).2).2) else ([],s)
def pAlt (seq:PS→Rx×PS) (s:PS):Rx×PS:=(altN ((seq s).1 :: (altLp seq (seq s).2.l.length (seq s).2).1),(altLp seq (seq s).2.l.length (seq s).2).2)
theorem altLp_stop {seq:PS→Rx×PS} {k:Nat} {s:PS} (h:¬ (s.bad<0∧s.hd=124)):altLp seq k s=([],s):=by
  cases k with
  | zero=>rfl
  | succ k=>rw [altLp,if_neg h]
theorem altLp_step {seq:PS→Rx×PS} {k:Nat} {s:PS} (h:s.bad<0∧s.hd=124):altLp seq (k+1) s=((seq s.adv).1 :: (altLp seq k (seq s.adv).2).1,(altLp seq k (seq s.adv).2).2):=by rw [altLp,if_pos h]
def starLp:Nat→PS→Rx→Rx×PS
  | 0,s,x=>(x,s)
  | n+1,s,x=>if s.hd=42 then starLp n s.adv (starN x) else if s.hd=63 then starLp n s.adv (altN [emptyRx,x]) else (x,s)
theorem starLp_stop {k:Nat} {s:PS} {x:Rx} (h:s.hd≠42) (h2:s.hd≠63):starLp k s x=(x,s):=by
  cases k with
  | zero=>rfl
  | succ k=>rw [starLp,if_neg h,if_neg h2]
theorem starLp_star {k:Nat} {s:PS} {x:Rx} (h:s.hd=42):starLp (k+1) s x=starLp k s.adv (starN x):=by rw [starLp,if_pos h]
theorem starLp_opt {k:Nat} {s:PS} {x:Rx} (h:s.hd=63):starLp (k+1) s x=starLp k s.adv (altN [emptyRx,x]):=by rw [starLp,if_neg (by omega),if_pos h]
theorem pSeq_is {post:PS→Rx×PS} {s z:PS} {acc:List Rx} (h:(acc,z)=seqLp post s.l.length s):pSeq post s=(seqN acc,z):=by unfold pSeq;rw [← h]
theorem pAlt_is {seq:PS→Rx×PS} {s z:PS} {acc:List Rx} (h:(acc,z)=((seq s).1 :: (altLp seq (seq s).2.l.length (seq s).2).1,(altLp seq (seq s).2.l.length (seq s).2).2)):pAlt seq s=(altN acc,z):=by
  rw [Prod.mk.injEq] at h
  unfold pAlt;rw [← h.1,← h.2]
def closeP (s:PS):PS:=if s.bad<0∧s.hd≠41 then s.fail else s
def pPost : Nat → PS → Rx × PS
  | 0,s=>(noneRx,s)
  | n + 1, s =>
    if s.hd = 40 then
      (if 0 ≤ (closeP (pAlt (pSeq (pPost n)) s.adv).2).bad then ((pAlt (pSeq (pPost n)) s.adv).1, closeP (pAlt (pSeq (pPost n)) s.adv).2)
       else starLp (closeP (pAlt (pSeq (pPost n)) s.adv).2).adv.l.length (closeP (pAlt (pSeq (pPost n)) s.adv).2).adv (pAlt (pSeq (pPost n)) s.adv).1)
    else starLp s.adv.l.length s.adv (s.l.getD 0 default).atom
theorem pPost_40e {n:Nat} {s:PS} (h:s.hd=40) (hb:0≤(closeP (pAlt (pSeq (pPost n)) s.adv).2).bad):pPost (n+1) s=((pAlt (pSeq (pPost n)) s.adv).1,closeP (pAlt (pSeq (pPost n)) s.adv).2):=by
  rw [pPost,if_pos h,if_pos hb]
theorem pPost_40 {n:Nat} {s:PS} (h:s.hd=40) (hb:¬ 0≤(closeP (pAlt (pSeq (pPost n)) s.adv).2).bad) :
    pPost (n+1) s=starLp (closeP (pAlt (pSeq (pPost n)) s.adv).2).adv.l.length (closeP (pAlt (pSeq (pPost n)) s.adv).2).adv (pAlt (pSeq (pPost n)) s.adv).1:=by
  rw [pPost,if_pos h,if_neg hb]
theorem pPost_x {n:Nat} {s:PS} (h:¬ s.hd=40):pPost (n+1) s=starLp s.adv.l.length s.adv (s.l.getD 0 default).atom:=by rw [pPost,if_neg h]
def finP (s:PS):PS:=if s.bad<0∧s.hd≠101 then s.fail else s
def pTop (l:List Tok):Rx×Int :=
  if 0≤(finP (pAlt (pSeq (pPost l.length)) ⟨l,-1⟩).2).bad then (noneRx,(finP (pAlt (pSeq (pPost l.length)) ⟨l,-1⟩).2).bad) else ((pAlt (pSeq (pPost l.length)) ⟨l,-1⟩).1,-1)
def endT (l:List Tok):Prop:=0<l.length∧((l.getD (l.length-1) default).kind=0∨(l.getD (l.length-1) default).kind=101)
def wtT:List Tok→Nat
  | []=>0
  | t :: l=>t.atom.size+4+wtT l
theorem getD_dropk {α:Type} [Inhabited α] {l:List α} {i k:Nat}:(l.drop k).getD i default=l.getD (k+i) default:=by
  rw [List.getD_eq_getElem?_getD,List.getElem?_drop,List.getD_eq_getElem?_getD]
theorem endT_adv {s:PS} (h:endT s.l) (hk:s.hd≠0∧s.hd≠101):endT s.adv.l∧s.adv.l.length+1=s.l.length:=by
  obtain ⟨h0,h1⟩:=h
  have h2:s.l.length≠1:=fun e=>by
    rw [e] at h1
    exact h1.elim hk.1 hk.2
  have h3:(s.l.drop 1).length=s.l.length-1:=List.length_drop
  refine ⟨⟨by show 0<(s.l.drop 1).length;omega,?_⟩,by show (s.l.drop 1).length+1=_;omega⟩
  show ((s.l.drop 1).getD ((s.l.drop 1).length-1) default).kind=0∨((s.l.drop 1).getD ((s.l.drop 1).length-1) default).kind=101
  rw [getD_dropk,h3,show 1+(s.l.length-1-1)=s.l.length-1 by omega];exact h1
theorem wt_adv {s:PS} (h:0<s.l.length):wtT s.l=(s.l.getD 0 default).atom.size+4+wtT s.adv.l:=by
  unfold PS.adv
  match hl:s.l,h with
  | t :: l,_=>rfl
theorem fail_l (s:PS):s.fail.l=s.l:=by unfold PS.fail;split<;>rfl
theorem closeP_l (s:PS):(closeP s).l=s.l:=by unfold closeP;split;exact fail_l s;rfl
structure TokOk (l:List Tok):Prop where
  nf:∀ t∈l,Nf t.atom
  pos:∀ t∈l,0≤t.pos
theorem TokOk.sub {l m:List Tok} (h:TokOk l) (hs:∀ t∈m,t∈l):TokOk m:=⟨fun t ht=>h.nf t (hs t ht),fun t ht=>h.pos t (hs t ht)⟩
def PostOk (post:PS→Rx×PS) (n:Nat):Prop:=∀ s:PS,s.l.length≤n→endT s.l→(s.hd=97∨s.hd=40)→TokOk s.l →
  endT (post s).2.l∧(post s).2.l.length<s.l.length∧(post s).1.size+wtT (post s).2.l≤wtT s.l∧Nf (post s).1∧∀ t∈(post s).2.l,t∈s.l
def SeqOk (c:Nat) (seq:PS→Rx×PS) (n:Nat):Prop:=∀ s:PS,s.l.length≤n→endT s.l→TokOk s.l →
  endT (seq s).2.l∧(seq s).2.l.length≤s.l.length∧(seq s).1.size+wtT (seq s).2.l≤wtT s.l+c∧Nf (seq s).1∧∀ t∈(seq s).2.l,t∈s.l
theorem seqLp_ok {post : PS → Rx × PS} {n : Nat} (h : PostOk post n) : ∀ (k : Nat) (s : PS), s.l.length ≤ n → endT s.l → TokOk s.l →
    endT (seqLp post k s).2.l∧(seqLp post k s).2.l.length≤s.l.length∧Rx.sizes (seqLp post k s).1+wtT (seqLp post k s).2.l≤wtT s.l∧(∀ x∈(seqLp post k s).1,Nf x)∧∀ t∈(seqLp post k s).2.l,t∈s.l
  | 0,s,hn,he,ha=>⟨he,Nat.le_refl _,by show 0+wtT s.l≤wtT s.l;omega,(fun x hx=>by cases hx),fun t ht=>ht⟩
  | k + 1, s, hn, he, ha => by
    rw [seqLp]
    split
    · next hc =>
      obtain ⟨g1,g2,g3,g4,g5⟩:=h s hn he hc.2 ha
      obtain ⟨i1,i2,i3,i4,i5⟩:=seqLp_ok h k (post s).2 (by omega) g1 (ha.sub g5)
      refine ⟨i1,by show (seqLp post k (post s).2).2.l.length≤_;omega,?_,fun x hx=>?_,fun t ht=>g5 t (i5 t ht)⟩
      · show Rx.sizes (_ :: _) + wtT (seqLp post k (post s).2).2.l ≤ _
        rw [Rx.sizes];omega
      · rcases List.mem_cons.1 hx with rfl | hx
        · exact g4
        · exact i4 x hx
    · exact ⟨he,Nat.le_refl _,by show 0+wtT s.l≤wtT s.l;omega,(fun x hx=>by cases hx),fun t ht=>ht⟩
theorem pSeq_ok {post:PS→Rx×PS} {n:Nat} (h:PostOk post n):SeqOk 1 (pSeq post) n:=fun s hn he ha=>by
  obtain ⟨i1,i2,i3,i4,i5⟩:=seqLp_ok h s.l.length s hn he ha
  have:=size_seqN (seqLp post s.l.length s).1
  exact ⟨i1,i2,by show (seqN _).size+wtT (seqLp post s.l.length s).2.l≤_;omega,seqN_nf i4,i5⟩
theorem altLp_ok {seq : PS → Rx × PS} {n : Nat} (h : SeqOk 1 seq n) : ∀ (k : Nat) (s : PS), s.l.length ≤ n → endT s.l → TokOk s.l →
    endT (altLp seq k s).2.l∧(altLp seq k s).2.l.length≤s.l.length∧Rx.sizes (altLp seq k s).1+wtT (altLp seq k s).2.l≤wtT s.l∧(∀ x∈(altLp seq k s).1,Nf x)∧∀ t∈(altLp seq k s).2.l,t∈s.l
  | 0,s,hn,he,ha=>⟨he,Nat.le_refl _,by show 0+wtT s.l≤wtT s.l;omega,(fun x hx=>by cases hx),fun t ht=>ht⟩
  | k + 1, s, hn, he, ha => by
    rw [altLp]
    split
    · next hc =>
      have hw:=wt_adv he.1
      obtain ⟨f1,f2⟩:=endT_adv he (by omega)
      have f3:∀ t∈s.adv.l,t∈s.l:=fun t ht=>List.mem_of_mem_drop ht
      obtain ⟨g1,g2,g3,g4,g5⟩:=h s.adv (by omega) f1 (ha.sub f3)
      obtain ⟨i1,i2,i3,i4,i5⟩:=altLp_ok h k (seq s.adv).2 (by omega) g1 (ha.sub fun t ht=>f3 t (g5 t ht))
      refine ⟨i1,by show (altLp seq k (seq s.adv).2).2.l.length≤_;omega,?_,fun x hx=>?_,fun t ht=>f3 t (g5 t (i5 t ht))⟩
      · show Rx.sizes (_ :: _) + wtT (altLp seq k (seq s.adv).2).2.l ≤ _
        rw [Rx.sizes];omega
      · rcases List.mem_cons.1 hx with rfl | hx
        · exact g4
        · exact i4 x hx
    · exact ⟨he,Nat.le_refl _,by show 0+wtT s.l≤wtT s.l;omega,(fun x hx=>by cases hx),fun t ht=>ht⟩
theorem pAlt_ok {seq:PS→Rx×PS} {n:Nat} (h:SeqOk 1 seq n):SeqOk 3 (pAlt seq) n:=fun s hn he ha=>by
  obtain ⟨g1,g2,g3,g4,g5⟩:=h s hn he ha
  obtain ⟨i1,i2,i3,i4,i5⟩:=altLp_ok h (seq s).2.l.length (seq s).2 (by omega) g1 (ha.sub g5)
  have hz:=size_altN ((seq s).1 :: (altLp seq (seq s).2.l.length (seq s).2).1)
  rw [Rx.sizes] at hz
  have hnf:Nf (altN ((seq s).1 :: (altLp seq (seq s).2.l.length (seq s).2).1)):=altN_nf fun x hx=>by
    rcases List.mem_cons.1 hx with rfl|hx
    · exact g4
    · exact i4 x hx
  have e1:(pAlt seq s).2=(altLp seq (seq s).2.l.length (seq s).2).2:=by unfold pAlt;rfl
  have e2:(pAlt seq s).1=altN ((seq s).1 :: (altLp seq (seq s).2.l.length (seq s).2).1):=by unfold pAlt;rfl
  rw [e1,e2]
  exact ⟨i1,by omega,by omega,hnf,fun t ht=>g5 t (i5 t ht)⟩
theorem size_opt (x:Rx):(altN [emptyRx,x]).size≤3+x.size:=by
  have:=size_altN [emptyRx,x]
  rw [Rx.sizes,Rx.sizes,Rx.sizes,size_mk] at this
  simp only [List.length_nil,Rx.sizes] at this;omega
theorem starLp_ok : ∀ (k : Nat) (s : PS) (x : Rx), endT s.l → Nf x →
    endT (starLp k s x).2.l∧(starLp k s x).2.l.length≤s.l.length∧(starLp k s x).1.size+wtT (starLp k s x).2.l≤x.size+wtT s.l∧Nf (starLp k s x).1∧∀ t∈(starLp k s x).2.l,t∈s.l
  | 0,s,x,he,hx=>⟨he,Nat.le_refl _,Nat.le_refl _,hx,fun t ht=>ht⟩
  | k + 1, s, x, he, hx => by
    have hw:=wt_adv he.1
    rw [starLp]
    split
    · next hc =>
      obtain ⟨f1,f2⟩:=endT_adv he (by omega)
      obtain ⟨i1,i2,i3,i4,i5⟩:=starLp_ok k s.adv (starN x) f1 (starN_nf hx)
      have:=size_starN x
      exact ⟨i1,by omega,by omega,i4,fun t ht=>List.mem_of_mem_drop (i5 t ht)⟩
    · split
      · next hc =>
        obtain ⟨f1,f2⟩:=endT_adv he (by omega)
        obtain ⟨i1,i2,i3,i4,i5⟩:=starLp_ok k s.adv (altN [emptyRx,x]) f1 (altN_nf fun y hy=>by
          rcases List.mem_cons.1 hy with rfl|hy
          · exact .empty
          · rw [List.mem_singleton.1 hy];exact hx)
        have:=size_opt x
        exact ⟨i1,by omega,by omega,i4,fun t ht=>List.mem_of_mem_drop (i5 t ht)⟩
      · exact ⟨he,Nat.le_refl _,Nat.le_refl _,hx,fun t ht=>ht⟩
theorem closeP_bad {s:PS} (h:¬ 0≤(closeP s).bad) (hp:∀ t∈s.l,0≤t.pos) (he:endT s.l):closeP s=s∧s.hd=41:=by
  unfold closeP at *
  split at h
  · next hc =>
    unfold PS.fail at h
    rw [if_pos hc.1] at h
    exact absurd (hp _ (by rw [getD_el he.1];exact List.getElem_mem he.1)) h
  · next hc =>
    rw [if_neg hc]
    refine ⟨rfl,?_⟩
    by_cases q:s.hd=41
    · exact q
    · exact absurd ⟨by omega,q⟩ hc
theorem pPost_ok : ∀ n : Nat, PostOk (pPost n) n
  | 0=>fun s hn he _ _=>by have:=he.1;omega
  | n + 1 => fun s hn he hk ha => by
    obtain ⟨f1,f2⟩:=endT_adv he (by omega)
    have hw:=wt_adv he.1
    have f3:∀ t∈s.adv.l,t∈s.l:=fun t ht=>List.mem_of_mem_drop ht
    rw [pPost]
    split
    · next h40 =>
      obtain ⟨g1,g2,g3,g4,g5⟩:=pAlt_ok (pSeq_ok (pPost_ok n)) s.adv (by omega) f1 (ha.sub f3)
      generalize hr:pAlt (pSeq (pPost n)) s.adv=r at *
      have e1:=closeP_l r.2
      have h1:=size_pos (s.l.getD 0 default).atom
      split
      · exact ⟨by rw [e1];exact g1,by show (closeP r.2).l.length<_;rw [e1];omega,by show r.1.size+wtT (closeP r.2).l≤_;rw [e1];omega,g4,fun t ht=>f3 t (g5 t (by rw [e1] at ht;exact ht))⟩
      · next hb =>
        obtain ⟨e2,h41⟩:=closeP_bad hb (fun t ht=>ha.pos t (f3 t (g5 t ht))) g1
        rw [e2]
        have hw2:=wt_adv g1.1
        obtain ⟨k1,k2⟩:=endT_adv g1 (by omega)
        obtain ⟨i1,i2,i3,i4,i5⟩:=starLp_ok r.2.adv.l.length r.2.adv r.1 k1 g4
        exact ⟨i1,by omega,by omega,i4,fun t ht=>f3 t (g5 t (List.mem_of_mem_drop (i5 t ht)))⟩
    · obtain ⟨i1, i2, i3, i4, i5⟩ := starLp_ok s.adv.l.length s.adv (s.l.getD 0 default).atom f1 (ha.nf _ (by rw [getD_el he.1]; exact List.getElem_mem he.1))
      exact ⟨i1,by omega,by omega,i4,fun t ht=>f3 t (i5 t ht)⟩
end Go.Wb

namespace Go.Wc
open Go.Am
abbrev byte (c:UInt8):AV:=.sc (.int .u8 c.toNat)
abbrev resL:List UInt8:=[48,49,50,51,52,53,54,55,56,57,45,35,46,124,40,41,42,63,123,125,62,47,95,126,59,58,44,61,34,64]
def resB (c:UInt8):Bool:=resL.contains c||decide (c.toNat<33)
def plainT (s:List UInt8):Bool:=s.all (fun c=>!resB c)&&decide (1≤s.length)&&decide (s.length≤4)
theorem plainT_hit {s:List UInt8} {k:Nat} (hk:k<s.length) (h:resB (s.getD k 0)=true):plainT s=false:=by
  unfold plainT
  have:s.all (fun c=>!resB c)=false:=by
    rw [List.all_eq_false]
    refine ⟨s[k],List.getElem_mem hk,?_⟩
    rw [List.getD_eq_getElem?_getD,List.getElem?_eq_getElem hk] at h
    simp only [Option.getD_some] at h
    simp [h]
  rw [this];rfl
theorem plainT_step {s:List UInt8} {k:Nat} (hk:k<s.length) (h0:(s.take k).all (fun c=>!resB c)=true) (h:resB (s.getD k 0)=false):(s.take (k+1)).all (fun c=>!resB c)=true:=by
  rw [take_succ hk,List.all_append,h0]
  have h2:s.getD k default=s.getD k 0:=rfl
  rw [h2,List.all_cons,h];rfl
theorem plainT_end {s:List UInt8} {k:Nat} (hk:s.length≤k) (h0:(s.take k).all (fun c=>!resB c)=true):plainT s=(decide (1≤s.length)&&decide (s.length≤4)):=by
  rw [List.take_of_length_le hk] at h0
  unfold plainT
  rw [h0,Bool.true_and]

def ok1P (a:List Letter) (x:Letter):Prop :=
  plainT x.text=true∧0≤x.base∧x.base<a.length∧(a.getD x.base.toNat default).base=x.base∧0≤x.mark∧x.mark≤15∧0≤x.cap∧x.cap≤1∧1≤x.width∧x.width≤1000
def ok2P (x:Letter) (i:Nat):Prop:=x.base=i→x.mark=0∧x.cap=0
def ok3P (a:List Letter) (i:Nat):Prop:=∀ k,k<i→(a.getD k default).text≠(a.getD i default).text
def okP (a:List Letter) (i:Nat):Prop:=ok1P a (a.getD i default)∧ok2P (a.getD i default) i∧ok3P a i
instance (a:List Letter) (x:Letter):Decidable (ok1P a x):=by unfold ok1P;infer_instance
instance (x:Letter) (i:Nat):Decidable (ok2P x i):=by unfold ok2P;infer_instance
instance (a:List Letter) (i:Nat):Decidable (ok3P a i):=by unfold ok3P;infer_instance
instance (a:List Letter) (i:Nat):Decidable (okP a i):=by unfold okP;infer_instance
def validP (a:List Letter):Prop:=(1≤a.length∧a.length≤60)∧∀ i,i<a.length→okP a i
instance (a:List Letter):Decidable (validP a):=by unfold validP;infer_instance
def validA (a:List Letter):Bool:=decide (validP a)
theorem validA_size {a:List Letter} (h:a.length<1∨60<a.length):validA a=false:=by
  unfold validA;rw [decide_eq_false];rintro ⟨h1,_⟩;omega
theorem validA_bad1 {a:List Letter} {i:Nat} (hi:i<a.length) (h:¬ ok1P a (a.getD i default)):validA a=false:=by
  unfold validA;rw [decide_eq_false];rintro ⟨_,h2⟩;exact h (h2 i hi).1
theorem validA_bad2 {a:List Letter} {i:Nat} (hi:i<a.length) (h:¬ ok2P (a.getD i default) i):validA a=false:=by
  unfold validA;rw [decide_eq_false];rintro ⟨_,h2⟩;exact h (h2 i hi).2.1
theorem validA_good {a:List Letter} {n:Nat} (h1:1≤a.length∧a.length≤60) (hn:a.length≤n) (h:∀ i,i<n→okP a i):validA a=true:=by
  unfold validA;rw [decide_eq_true];exact ⟨h1,fun i hi=>h i (by omega)⟩
theorem lt_step {p:Nat→Prop} {k:Nat} (h:∀ j,j<k→p j) (hk:p k):∀ j,j<k+1→p j:=by
  intro j hj
  by_cases he:j=k
  · subst he;exact hk
  · exact h j (by omega)
abbrev lcells (c:Cls) (x:Letter):List SV:=[.v c (sbytes x.text),.v c (int x.base),.v c (int x.mark),.v c (int x.cap),.v c (int x.width)]
end Go.Wc

