/-
  A local variable that holds nil (of whatever class) becomes one that holds an array of the call's own.
-/
import Derived.Test.YtjimlkpfmbachaaGreatJ6
import Derived.Shelf.SortM.Plain
import Derived.Shelf.SortM.SortNone
import Derived.Shelf.SlicesG.Reverse
import Derived.Test.YtjimlkpfmbachaaGreatRows
import Derived.Shelf.SlGeneric
import Derived.Ground.SlgnProg
import Derived.Test.YtjimlkpfmbachaaGreatJ14
import Derived.Test.YtjimlkpfmbachaaGreatJ10
import Derived.Test.YtjimlkpfmbachaaGreatJ13
set_option linter.unusedVariables false
set_option linter.unusedSectionVars false
set_option linter.unusedSimpArgs false
namespace Go.Am
open Go.RowKit Go.Sort Go.Proofs
structure SortsZ (P:Program) (f:FuncId):Prop where
  callable:Callable P f
  none:∀ (p:Option Addr) (cap:Nat) (w:World),Calls P f #[.slice p 0 cap] w fun e w'=>e=.returned (.tuple #[])∧w'=w
  some:∀ (blk off cap:Nat) (zs:List Int) (w:World) (hH:Holds (Value.int .i64) w blk off zs.toArray) (hblk:blk<w.heap.size) (hsz:zs.length<4611686018427387904),
    Calls P f #[.slice (.some ⟨blk,off,.none⟩) zs.length cap] w fun e w' =>
      e=.returned (.tuple #[])∧∃ n os,w'=grow (putRow (Value.int .i64) (Sort.ahead w n) blk off (zs.mergeSort fun x y=>decide (x≤y)).toArray) os
section
variable {P:Program} {w0:Fr} {M0:Nat→Prop}
variable {o:Oper} {s:St} {x y:Operand} {T T' e:TypeId} {c:Cls} {id t:Nat}
theorem step_sortZ {l : List Int} {f : FuncId} {ats : Array TypeId} (hS : SortsZ P f) (ho : o.op = .call { callee := .value (.func f), args := #[x], argTypes := ats }) (hd : o.dst = some t) (hn : Nat.blt t s.n = true)
    (hnd:Nodup s.s=true) (hx:s.ev x=some (.own id)) (hl:s.o.lookup id=some (.arr e (l.map int))) (hk:szOf P e=some 1) (hsz:l.length<4611686018427387904) (hM0:∀ b,M0 b→b<w0.w.heap.size) :
    Step P w0 M0 o s ((s.upd false id (.arr e ((l.mergeSort fun x y=>decide (x≤y)).map int))).put t (.v .pl (.tup []))):=by
  rintro a w Q ⟨E,hs⟩
  have hxv:=hs.ev hx _ _ hl
  have hob:=hs.wok.objs id _ hl
  obtain ⟨vals,⟨hown,hownF⟩,hcl,hrp⟩:=hob
  have hck:=cellsOf_of hk
  have hxl:(l.map int).length=l.length:=by simp
  have hvals:vals=l.map (Value.int .i64):=by
    apply List.ext_getElem?
    intro j
    have hlen:vals.length=l.length:=by have:=hown.1;rw [hck] at this;simpa using this
    rcases Nat.lt_or_ge j l.length with hj|hj
    · have h2 := (hrp j (.sc (.int .i64 l[j])) (by rw [show l.map int = l.map fun z => AV.sc (Value.int .i64 z) from rfl, flat_sv, List.getElem?_map, List.getElem?_eq_getElem hj]; rfl)).2
      rw [List.getD_eq_getElem?_getD,List.getElem?_eq_getElem (by omega),Option.getD_some] at h2
      rw [List.getElem?_eq_getElem (by omega),List.getElem?_map,List.getElem?_eq_getElem hj,Option.map_some]
      congr 1
      generalize vals[j]=u at h2 ⊢
      cases h2;rfl
    · rw [List.getElem?_eq_none (by omega),List.getElem?_eq_none (by simpa using hj)]
  have hrun:(execOp a.eval o).run P w=.ok (.enter f #[E.cur id]) w:=by
    have:=run_call (P:=P) (ev:=a.eval) (w:=w) (caps:=#[]) ho rfl hS.callable
    simpa [hxv] using this
  unfold Oper.wp
  rw [hrun]
  simp only [Oper.upon]
  rcases hown.2 with ⟨hv,hn0⟩|⟨gb,cap,cur,hv,hgb,hh,hnc',hcm,hcs,htake⟩
  · -- nothing to sort
    have hl0:l=[]:=List.eq_nil_of_length_eq_zero (by simpa using hn0)
    rw [hv]
    refine (hS.none none 0 w).mono fun e' w' ⟨he,hw⟩=>?_
    subst he;subst hw
    simp only [hd]
    refine ⟨E,SimE.put ?_ (by simpa [St.upd] using hn) (Rep.tup [] [] rfl (fun j d hd=>by simp at hd))⟩
    refine hs.upd false (fun _=>⟨rfl,.inl ⟨e,_,_,hl,rfl,by simp⟩⟩) hnd hM0 (fun i hi=>⟨rfl,rfl⟩) (.inr rfl) none ⟨rfl,rfl,rfl,Nat.le_refl _,fun _ _ _=>rfl⟩ (fun _=>Nat.le_refl _) (fun g hg'=>by cases hg') (fun b hb=>.inl ⟨_,hl,hb⟩) (fun rep sv=>?_)
    subst hl0
    simp only [List.mergeSort_nil,List.map_nil]
    refine ⟨[],⟨⟨by simp,.inl ⟨hv,rfl⟩⟩,hownF⟩,fun x hx=>(by cases hx),fun j d hd=>(by simp [flat] at hd)⟩
  · rw [hxl] at hv hnc' htake
    rw [hck,Nat.mul_one] at hcs
    rw [hck,Nat.mul_one,hvals] at htake
    rcases Nat.eq_zero_or_pos l.length with hl0|hpos
    · -- nothing to sort, with room behind
      have hl0:l=[]:=List.eq_nil_of_length_eq_zero hl0
      rw [hv,hl0]
      refine (hS.none _ cap w).mono fun e' w' ⟨he,hw⟩=>?_
      subst he;subst hw
      simp only [hd]
      refine ⟨E,SimE.put ?_ (by simpa [St.upd] using hn) (Rep.tup [] [] rfl (fun j d hd=>by simp at hd))⟩
      refine hs.upd false (fun _=>⟨rfl,.inl ⟨e,_,_,hl,rfl,by simp [hl0]⟩⟩) hnd hM0 (fun i hi=>⟨rfl,rfl⟩) (.inr rfl) none ⟨rfl,rfl,rfl,Nat.le_refl _,fun _ _ _=>rfl⟩ (fun _=>Nat.le_refl _) (fun g hg'=>by cases hg') (fun b hb=>.inl ⟨_,hl,hb⟩) (fun rep sv=>?_)
      simp only [List.mergeSort_nil,List.map_nil]
      refine ⟨[],⟨⟨by simp,.inr ⟨gb,cap,cur,by rw [hv,hl0];rfl,hgb,hh,Nat.zero_le _,hcm,by rw [hck,Nat.mul_one];exact hcs,by simp⟩⟩,hownF⟩,fun x hx=>(by cases hx),fun j d hd=>(by simp [flat] at hd)⟩
    · have hblk : gb < w.heap.size := (Array.getElem?_eq_some_iff.1 hh).1
      have hcurj:∀ j (hj:j<l.length),cur[j]?=some (Value.int .i64 l[j]):=fun j hj=>by
        have:(cur.toList.take l.length)[j]?=some (Value.int .i64 l[j]):=by rw [htake,List.getElem?_map,List.getElem?_eq_getElem hj];rfl
        rw [List.getElem?_take,if_pos hj,Array.getElem?_toList] at this
        exact this
      have hH:Holds (Value.int .i64) w gb 0 l.toArray:=by
        intro j hj
        have hj':j<l.length:=by simpa using hj
        refine ⟨?_,?_⟩
        · simp only [World.cell?, hh, Nat.zero_add]
          rw [getElem!_pos l.toArray j hj]
          simpa using hcurj j hj'
        · simp only [World.frozen?, hh]
          simp
      have hcall:=hS.some gb 0 cap l w hH hblk hsz
      rw [hv]
      refine hcall.mono fun e' w' ⟨he,n,os,hw⟩=>?_
      subst he
      simp only [hd]
      generalize hml:(l.mergeSort fun x y=>decide (x≤y))=ml at hw
      have hmll:ml.length=l.length:=by rw [← hml];simp
      have hw':w'=sortWorld (Value.int .i64) w gb 0 n ml.toArray os:=hw
      have hdrawn:w.drawn≤w'.drawn:=by rw [hw'];simp [sortWorld,grow,putRow,mapBlock,Sort.ahead]
      have hgr:w.grownBy w' (some gb):=by
        rw [hw']
        exact ⟨rfl,rfl,rfl,by rw [sortWorld_size];omega,fun k hk hne=>sortWorld_other _ _ _ _ _ _ (fun he=>hne (by rw [he])) hk⟩
      have hhw:w'.heap[gb]?=some (.cells (putCells (Value.int .i64) 0 ml.toArray cur) e (0,0)):=by
        have:=sortWorld_same (enc:=Value.int .i64) w gb n ml.toArray os (off:=0) hh
        rw [hw'];exact this
      refine ⟨E,SimE.put ?_ (by simpa [St.upd] using hn) (Rep.tup [] [] rfl (fun j d hd=>by simp at hd))⟩
      refine hs.upd false (fun _=>⟨rfl,.inl ⟨e,_,_,hl,rfl,by simp [hmll]⟩⟩) hnd hM0 (fun i hi=>⟨rfl,rfl⟩) (.inr rfl) (some gb) hgr (fun _=>hdrawn) (fun g' hg'=>⟨_,hl,by simp only [Option.some.injEq] at hg';subst hg';simp only [ownB,hv,Value.ownBlock]⟩) (fun b hb=>.inl ⟨_,hl,hb⟩) (fun rep sv=>?_)
      refine ⟨ml.map (Value.int .i64),⟨⟨by rw [hck];simp,.inr ⟨gb,cap,_,by rw [hv];simp [hmll],hgb,hhw,by simpa [hmll] using hnc',hcm,by rw [hck,Nat.mul_one];simpa [putCells] using hcs,?_⟩⟩,hownF⟩,?_,fun j d' hd'=>?_⟩
      · rw [hck]
        apply List.ext_getElem?
        intro j
        simp only [List.length_map,Nat.mul_one,hmll]
        rw [List.getElem?_take]
        by_cases hj:j<l.length
        · rw [if_pos hj, Array.getElem?_toList]
          simp only [putCells,Array.getElem?_mapIdx,hcurj j hj,Option.map_some,Nat.zero_le,true_and,Nat.zero_add,List.size_toArray,hmll,hj,if_true,Nat.sub_zero]
          rw [List.getElem?_map,List.getElem?_eq_getElem (by omega),Option.map_some,getElem!_pos ml.toArray j (by simp;omega)]
          simp
        · rw [if_neg hj,List.getElem?_eq_none (by simp;omega)]
      · intro x hx
        rw [List.mem_map] at hx
        obtain ⟨z,_,rfl⟩:=hx
        rw [hck];rfl
      · rw [show ml.map int = ml.map fun z => AV.sc (Value.int .i64 z) from rfl, flat_sv, List.getElem?_map, Option.map_eq_some_iff] at hd'
        obtain ⟨z,hz,rfl⟩:=hd'
        refine ⟨rfl,?_⟩
        rw [List.getD_eq_getElem?_getD,List.getElem?_map,hz]
        exact .sc _ rfl
end
end Go.Am

namespace Go.Am
open Go.RowKit Go.Sort Go.Proofs
structure RevI (P:Program) (f:FuncId):Prop where
  callable:Callable P f
  none:∀ (p:Option Addr) (cap:Nat) (w:World),Calls P f #[.slice p 0 cap] w fun e w'=>e=.returned (.tuple #[])∧w'=w
  some:∀ (blk off cap:Nat) (zs:List Int) (w:World) (hH:Holds (Value.int .i64) w blk off zs.toArray) (hblk:blk<w.heap.size) (hsz:zs.length<4611686018427387904),
    Calls P f #[.slice (.some ⟨blk,off,.none⟩) zs.length cap] w fun e w' =>
      e=.returned (.tuple #[])∧∃ n os,w'=grow (putRow (Value.int .i64) (Sort.ahead w n) blk off (zs.reverse).toArray) os
section
variable {P:Program} {w0:Fr} {M0:Nat→Prop}
variable {o:Oper} {s:St} {x y:Operand} {T T' e:TypeId} {c:Cls} {id t:Nat}
theorem grow_none (w:World):grow w #[]=w:=by unfold grow;simp
theorem step_revI {l : List Int} {f : FuncId} {ats : Array TypeId} (hS : RevI P f) (ho : o.op = .call { callee := .value (.func f), args := #[x], argTypes := ats }) (hd : o.dst = some t) (hn : Nat.blt t s.n = true)
    (hnd:Nodup s.s=true) (hx:s.ev x=some (.own id)) (hl:s.o.lookup id=some (.arr e (l.map int))) (hk:szOf P e=some 1) (hsz:l.length<4611686018427387904) (hM0:∀ b,M0 b→b<w0.w.heap.size) :
    Step P w0 M0 o s ((s.upd false id (.arr e ((l.reverse).map int))).put t (.v .pl (.tup []))):=by
  rintro a w Q ⟨E,hs⟩
  have hxv:=hs.ev hx _ _ hl
  have hob:=hs.wok.objs id _ hl
  obtain ⟨vals,⟨hown,hownF⟩,hcl,hrp⟩:=hob
  have hck:=cellsOf_of hk
  have hxl:(l.map int).length=l.length:=by simp
  have hvals:vals=l.map (Value.int .i64):=by
    apply List.ext_getElem?
    intro j
    have hlen:vals.length=l.length:=by have:=hown.1;rw [hck] at this;simpa using this
    rcases Nat.lt_or_ge j l.length with hj|hj
    · have h2 := (hrp j (.sc (.int .i64 l[j])) (by rw [show l.map int = l.map fun z => AV.sc (Value.int .i64 z) from rfl, flat_sv, List.getElem?_map, List.getElem?_eq_getElem hj]; rfl)).2
      rw [List.getD_eq_getElem?_getD,List.getElem?_eq_getElem (by omega),Option.getD_some] at h2
      rw [List.getElem?_eq_getElem (by omega),List.getElem?_map,List.getElem?_eq_getElem hj,Option.map_some]
      congr 1
      generalize vals[j]=u at h2 ⊢
      cases h2;rfl
    · rw [List.getElem?_eq_none (by omega),List.getElem?_eq_none (by simpa using hj)]
  have hrun:(execOp a.eval o).run P w=.ok (.enter f #[E.cur id]) w:=by
    have:=run_call (P:=P) (ev:=a.eval) (w:=w) (caps:=#[]) ho rfl hS.callable
    simpa [hxv] using this
  unfold Oper.wp
  rw [hrun]
  simp only [Oper.upon]
  rcases hown.2 with ⟨hv,hn0⟩|⟨gb,cap,cur,hv,hgb,hh,hnc',hcm,hcs,htake⟩
  · -- nothing to sort
    have hl0:l=[]:=List.eq_nil_of_length_eq_zero (by simpa using hn0)
    rw [hv]
    refine (hS.none none 0 w).mono fun e' w' ⟨he,hw⟩=>?_
    subst he;subst hw
    simp only [hd]
    refine ⟨E,SimE.put ?_ (by simpa [St.upd] using hn) (Rep.tup [] [] rfl (fun j d hd=>by simp at hd))⟩
    refine hs.upd false (fun _=>⟨rfl,.inl ⟨e,_,_,hl,rfl,by simp⟩⟩) hnd hM0 (fun i hi=>⟨rfl,rfl⟩) (.inr rfl) none ⟨rfl,rfl,rfl,Nat.le_refl _,fun _ _ _=>rfl⟩ (fun _=>Nat.le_refl _) (fun g hg'=>by cases hg') (fun b hb=>.inl ⟨_,hl,hb⟩) (fun rep sv=>?_)
    subst hl0
    simp only [List.reverse_nil,List.map_nil]
    refine ⟨[],⟨⟨by simp,.inl ⟨hv,rfl⟩⟩,hownF⟩,fun x hx=>(by cases hx),fun j d hd=>(by simp [flat] at hd)⟩
  · rw [hxl] at hv hnc' htake
    rw [hck,Nat.mul_one] at hcs
    rw [hck,Nat.mul_one,hvals] at htake
    rcases Nat.eq_zero_or_pos l.length with hl0|hpos
    · -- nothing to sort, with room behind
      have hl0:l=[]:=List.eq_nil_of_length_eq_zero hl0
      rw [hv,hl0]
      refine (hS.none _ cap w).mono fun e' w' ⟨he,hw⟩=>?_
      subst he;subst hw
      simp only [hd]
      refine ⟨E,SimE.put ?_ (by simpa [St.upd] using hn) (Rep.tup [] [] rfl (fun j d hd=>by simp at hd))⟩
      refine hs.upd false (fun _=>⟨rfl,.inl ⟨e,_,_,hl,rfl,by simp [hl0]⟩⟩) hnd hM0 (fun i hi=>⟨rfl,rfl⟩) (.inr rfl) none ⟨rfl,rfl,rfl,Nat.le_refl _,fun _ _ _=>rfl⟩ (fun _=>Nat.le_refl _) (fun g hg'=>by cases hg') (fun b hb=>.inl ⟨_,hl,hb⟩) (fun rep sv=>?_)
      simp only [List.reverse_nil,List.map_nil]
      refine ⟨[],⟨⟨by simp,.inr ⟨gb,cap,cur,by rw [hv,hl0];rfl,hgb,hh,Nat.zero_le _,hcm,by rw [hck,Nat.mul_one];exact hcs,by simp⟩⟩,hownF⟩,fun x hx=>(by cases hx),fun j d hd=>(by simp [flat] at hd)⟩
    · have hblk : gb < w.heap.size := (Array.getElem?_eq_some_iff.1 hh).1
      have hcurj:∀ j (hj:j<l.length),cur[j]?=some (Value.int .i64 l[j]):=fun j hj=>by
        have:(cur.toList.take l.length)[j]?=some (Value.int .i64 l[j]):=by rw [htake,List.getElem?_map,List.getElem?_eq_getElem hj];rfl
        rw [List.getElem?_take,if_pos hj,Array.getElem?_toList] at this
        exact this
      have hH:Holds (Value.int .i64) w gb 0 l.toArray:=by
        intro j hj
        have hj':j<l.length:=by simpa using hj
        refine ⟨?_,?_⟩
        · simp only [World.cell?, hh, Nat.zero_add]
          rw [getElem!_pos l.toArray j hj]
          simpa using hcurj j hj'
        · simp only [World.frozen?, hh]
          simp
      have hcall:=hS.some gb 0 cap l w hH hblk hsz
      rw [hv]
      refine hcall.mono fun e' w' ⟨he,n,os,hw⟩=>?_
      subst he
      simp only [hd]
      generalize hml:(l.reverse)=ml at hw
      have hmll:ml.length=l.length:=by rw [← hml];simp
      have hw':w'=sortWorld (Value.int .i64) w gb 0 n ml.toArray os:=hw
      have hdrawn:w.drawn≤w'.drawn:=by rw [hw'];simp [sortWorld,grow,putRow,mapBlock,Sort.ahead]
      have hgr:w.grownBy w' (some gb):=by
        rw [hw']
        exact ⟨rfl,rfl,rfl,by rw [sortWorld_size];omega,fun k hk hne=>sortWorld_other _ _ _ _ _ _ (fun he=>hne (by rw [he])) hk⟩
      have hhw:w'.heap[gb]?=some (.cells (putCells (Value.int .i64) 0 ml.toArray cur) e (0,0)):=by
        have:=sortWorld_same (enc:=Value.int .i64) w gb n ml.toArray os (off:=0) hh
        rw [hw'];exact this
      refine ⟨E,SimE.put ?_ (by simpa [St.upd] using hn) (Rep.tup [] [] rfl (fun j d hd=>by simp at hd))⟩
      refine hs.upd false (fun _=>⟨rfl,.inl ⟨e,_,_,hl,rfl,by simp [hmll]⟩⟩) hnd hM0 (fun i hi=>⟨rfl,rfl⟩) (.inr rfl) (some gb) hgr (fun _=>hdrawn) (fun g' hg'=>⟨_,hl,by simp only [Option.some.injEq] at hg';subst hg';simp only [ownB,hv,Value.ownBlock]⟩) (fun b hb=>.inl ⟨_,hl,hb⟩) (fun rep sv=>?_)
      refine ⟨ml.map (Value.int .i64),⟨⟨by rw [hck];simp,.inr ⟨gb,cap,_,by rw [hv];simp [hmll],hgb,hhw,by simpa [hmll] using hnc',hcm,by rw [hck,Nat.mul_one];simpa [putCells] using hcs,?_⟩⟩,hownF⟩,?_,fun j d' hd'=>?_⟩
      · rw [hck]
        apply List.ext_getElem?
        intro j
        simp only [List.length_map,Nat.mul_one,hmll]
        rw [List.getElem?_take]
        by_cases hj:j<l.length
        · rw [if_pos hj, Array.getElem?_toList]
          simp only [putCells,Array.getElem?_mapIdx,hcurj j hj,Option.map_some,Nat.zero_le,true_and,Nat.zero_add,List.size_toArray,hmll,hj,if_true,Nat.sub_zero]
          rw [List.getElem?_map,List.getElem?_eq_getElem (by omega),Option.map_some,getElem!_pos ml.toArray j (by simp;omega)]
          simp
        · rw [if_neg hj,List.getElem?_eq_none (by simp;omega)]
      · intro x hx
        rw [List.mem_map] at hx
        obtain ⟨z,_,rfl⟩:=hx
        rw [hck];rfl
      · rw [show ml.map int = ml.map fun z => AV.sc (Value.int .i64 z) from rfl, flat_sv, List.getElem?_map, Option.map_eq_some_iff] at hd'
        obtain ⟨z,hz,rfl⟩:=hd'
        refine ⟨rfl,?_⟩
        rw [List.getD_eq_getElem?_getD,List.getElem?_map,hz]
        exact .sc _ rfl
end
end Go.Am

namespace Go.Proofs
open Go.Shelf
def Tryz.revI_ren:Go.Shelf.Ren:=⟨fun|35=>97|n=>n,fun|22=>22|23=>3|3=>3|4=>4|0=>0|n=>n,fun|n=>n⟩
theorem Tryz.revI:Go.Proofs.SlLaysN.n35 Tryz.prog Tryz.revI_ren:={
  mixed:=by kernel_rfl
  f35:=⟨Tryz.f97.name,by decide,Tryz.func97.trans (congrArg some (by kernel_rfl))⟩
  t0:=Tryz.underlying0
  a0:=Tryz.isAgg0
  z0:=Tryz.sizeOf0
  v0:=Tryz.zeroValue0
  t3:=Tryz.underlying3
  a3:=Tryz.isAgg3
  z3:=Tryz.sizeOf3
  v3:=Tryz.zeroValue3
  t4:=Tryz.underlying4
  a4:=Tryz.isAgg4
  z4:=Tryz.sizeOf4
  v4:=Tryz.zeroValue4
  t22:=Tryz.underlying22
  a22:=Tryz.isAgg22
  z22:=Tryz.sizeOf22
  v22:=Tryz.zeroValue22
  t23:=Tryz.underlying3
  a23:=Tryz.isAgg3
  z23:=Tryz.sizeOf3
  v23:=Tryz.zeroValue3 }
end Go.Proofs

namespace Go.Wd
open Go.Am
section
variable {d:Dfa}
def notZ (d:Dfa):Dfa:=if validD d=true then notP d else zeroD
theorem notZ_t (h:validD d=true):notZ d=minZ (flipD d):=by
  rw [minZ_t (ok_valid (flip_ok (valid_ok h)))];exact if_pos h
theorem notZ_f (h:validD d=false):notZ d=zeroD:=if_neg (by rw [h];decide)
def ng (l:List Bool) (i:Nat):List Bool:=(l.take i).map (fun b=>!b)++l.drop i
theorem ng_zero (l:List Bool):ng l 0=l:=by simp [ng]
theorem ng_all (l:List Bool):ng l l.length=l.map fun b=>!b:=by simp [ng]
theorem ng_len (l:List Bool) (i:Nat):(ng l i).length=l.length:=by unfold ng;rw [List.length_append,List.length_map,List.length_take,List.length_drop];omega
theorem ng_get {l:List Bool} {i:Nat} (h:i<l.length):(ng l i).getD i default=l.getD i default:=by
  unfold ng
  rw [List.getD_eq_getElem?_getD,List.getElem?_append_right (by rw [List.length_map,List.length_take];omega),List.length_map,List.length_take,Nat.min_eq_left (by omega),Nat.sub_self,List.getElem?_drop,Nat.add_zero,← List.getD_eq_getElem?_getD]
theorem ng_set {l:List Bool} {i:Nat} (h:i<l.length):((ng l i).map bool).set i (bool (!(ng l i).getD i default))=(ng l (i+1)).map bool:=by
  rw [← List.map_set,ng_get h]
  congr 1
  unfold ng
  rw [List.set_append_right _ _ (by rw [List.length_map,List.length_take];omega),List.length_map,List.length_take,Nat.min_eq_left (by omega),Nat.sub_self,List.drop_eq_getElem_cons h,List.set_cons_zero,List.take_add_one,List.getElem?_eq_getElem h,el_get h,List.map_append,List.append_assoc]
  rfl
theorem take_all {α:Type} {l:List α} {i:Nat} (h:l.length≤i):l.take i=l:=List.take_of_length_le h
theorem take_one {α:Type} [Inhabited α] {l:List α} {i:Nat} (h:i<l.length):l.take (i+1)=l.take i++[l.getD i default]:=by
  rw [List.take_add_one,List.getElem?_eq_getElem h,el_get h];rfl
/-! least words -/
def leastZ (d:Dfa):Option (List Nat):=if validD d=true then leastP d else none
theorem leastZ_t (h:validD d=true):leastZ d=leastP d:=if_pos h
theorem leastZ_f (h:validD d=false):leastZ d=none:=if_neg (by rw [h];decide)
theorem stpD_mem (hd:okD d):∀ x∈List.range d.n,∀ s,s<d.k→d.stp x s∈List.range d.n:=fun x hx s hs=>List.mem_range.2 (hd.stp (List.mem_range.1 hx) hs)
/-! the reference's search -/
def mt (n:Nat) (l:List (Pth Nat)):List Bool:=(List.range n).map fun q=>decide (q∈keysW l)
theorem mt_len (n:Nat) (l:List (Pth Nat)):(mt n l).length=n:=by unfold mt;simp
theorem mt_get {n:Nat} {l:List (Pth Nat)} {q:Nat} (h:q<n):(mt n l).getD q default=decide (q∈keysW l):=by
  unfold mt;rw [List.getD_eq_getElem?_getD,List.getElem?_map,List.getElem?_range h];rfl
theorem mt_el {n:Nat} {l:List (Pth Nat)} {i:Nat} (h:i<(mt n l).length):(mt n l)[i]=decide (i∈keysW l):=by simp [mt]
theorem mt_nil (n:Nat):mt n []=List.replicate n false:=List.ext_getElem (by simp [mt]) fun i h1 h2=>by simp [mt]
theorem mt_set {n:Nat} {l:List (Pth Nat)} {q:Nat} {w:List Nat} (h:q<n):((mt n l).map bool).set q (bool true)=(mt n (l++[(q,w)])).map bool:=by
  rw [← List.map_set]
  congr 1
  refine List.ext_getElem (by rw [List.length_set,mt_len,mt_len]) fun i h1 h2=>?_
  rw [List.getElem_set,mt_el,mt_el]
  by_cases e:q=i
  · subst e;rw [if_pos rfl];exact (decide_eq_true (by simp)).symm
  · rw [if_neg e]
    refine decide_eq_decide.2 ?_
    simp only [keysW,List.map_append,List.map_cons,List.map_nil,List.mem_append,List.mem_singleton]
    exact ⟨.inl,fun q2=>q2.elim id fun e2=>absurd e2.symm e⟩
theorem rep_mapB (n:Nat):List.replicate n (AV.sc (.bool false))=(List.replicate n false).map bool:=by rw [List.map_replicate]
theorem keys_new {n:Nat} {l:List (Pth Nat)} {q:Nat} (h:q<n) (hm:(mt n l).getD q default=false):q ∉ keysW l:=by
  rw [mt_get h] at hm;exact of_decide_eq_false hm
theorem keys_old {n:Nat} {l:List (Pth Nat)} {q:Nat} (h:q<n) (hm:(mt n l).getD q default=true):q∈keysW l:=by
  rw [mt_get h] at hm;exact of_decide_eq_true hm
end
end Go.Wd

namespace Go.Wd
open Go.Am Go.Wc
abbrev u64I (z:Int):AV:=.sc (.int .u64 z)
section
variable {d:Dfa}
theorem tr_len {K:Type} [Inhabited K] {T:List (Stp K)} {P:List (Pth K)} (h:Tr T P):∀ (n j:Nat),j≤n→j<P.length→(P.getD j default).2.length≤j:=by
  intro n
  induction n with
  | zero =>
    intro j hj hl
    rcases h.way j hl with ⟨_,e⟩|⟨f,s,hf,_⟩
    · rw [e];exact Nat.zero_le _
    · omega
  | succ n ih =>
    intro j hj hl
    rcases h.way j hl with ⟨_,e⟩|⟨f,s,hf,_,_,e⟩
    · rw [e];exact Nat.zero_le _
    · have := ih f (by omega) (by omega)
      rw [e,List.length_append];simp only [List.length_cons,List.length_nil];omega
/-! counts -/
def countZ (d:Dfa) (n:Int):Int:=if validD d=true∧0≤n∧n≤1024 then countP d n.toNat else 0
theorem countZ_f {n:Int} (h:¬ (validD d=true∧0≤n∧n≤1024)):countZ d n=0:=if_neg h
theorem countZ_v {n:Int} (h:validD d=false):countZ d n=0:=if_neg fun q=>by rw [h] at q;cases q.1
theorem countZ_t {n:Int} (h:validD d=true) (h0:0≤n) (h1:n≤1024):countZ d n=countP d n.toNat:=if_pos ⟨h,h0,h1⟩
theorem addAt_map (u:List Int) (q:Nat) (z:Int):(addAt u q z).map u64I=(u.map u64I).set q (u64I ((u.getD q default+z) % M64)):=by unfold addAt;rw [List.map_set];rfl
theorem rep_mapU (n:Nat):List.replicate n (AV.sc (.int .u64 0))=(List.replicate n (0:Int)).map u64I:=by rw [List.map_replicate]
theorem cVec_0:((List.replicate d.n (0:Int)).map u64I).set 0 (u64I 1)=(cVec d 0).map u64I:=by rw [cVec,List.map_set]
theorem cSum_t {v:List Int} {i:Nat} (h:d.fn i=true):cSum d v (i+1)=(cSum d v i+v.getD i default) % M64:=by rw [cSum,if_pos h];rfl
theorem cSum_f {v:List Int} {i:Nat} (h:d.fn i=false):cSum d v (i+1)=cSum d v i:=by rw [cSum,if_neg (by rw [h];decide)]
/-! words -/
abbrev okW (d:Dfa) (w:List Int):Prop:=∀ s∈w,0≤s∧s<d.size
def toN (w:List Int):List Nat:=w.map Int.toNat
def accI (d:Dfa) (w:List Int):Bool:=if validD d=true∧okW d w then d.acc 0 (toN w) else false
def endI (d:Dfa) (q:Nat) (w:List Int):Int:=if okW d w then (d.run q (toN w):Int) else -1
theorem okW_bad {w:List Int} {i:Nat} (hi:i<w.length) (h:w.getD i default<0∨d.size≤w.getD i default):¬ okW d w:=fun q=>by have:=q _ (el_mem hi);omega
theorem okW_all {w:List Int} (h:∀ j,j<w.length→0≤w.getD j default∧w.getD j default<d.size):okW d w:=fun s hs=>by
  obtain ⟨j,hj,rfl⟩:=List.getElem_of_mem hs
  have:=h j hj
  rwa [el_get hj] at this
theorem run_step {q i:Nat} {w:List Int} (hi:i<w.length):d.run q (toN (w.take (i+1)))=d.stp (d.run q (toN (w.take i))) (w.getD i default).toNat:=by
  rw [take_one hi]
  unfold toN Dfa.run
  rw [List.map_append,List.foldl_append];rfl
theorem wrd_ok (hd:okD d) {w:List Int} (h:∀ j,j<w.length→0≤w.getD j default∧w.getD j default<d.size):Wrd d.k (toN w):=fun s hs=>by
  obtain ⟨x,hx,rfl⟩:=List.mem_map.1 hs
  have:=okW_all h x hx
  have:=(kk hd).1
  omega
theorem run_lt (hd:okD d) {q i:Nat} {w:List Int} (hq:q<d.n) (hi:i≤w.length) (h:∀ j,j<i→0≤w.getD j default∧w.getD j default<d.size):d.run q (toN (w.take i))<d.n:=by
  refine hd.run _ _ hq (wrd_ok hd fun j hj=>?_)
  rw [List.length_take] at hj
  have:=h j (by omega)
  rwa [List.getD_eq_getElem?_getD,List.getElem?_take,if_pos (by omega),← List.getD_eq_getElem?_getD]
theorem accI_v {w:List Int} (h:validD d=false):accI d w=false:=if_neg fun q=>by rw [h] at q;cases q.1
theorem accI_w {w:List Int} (h:¬ okW d w):accI d w=false:=if_neg fun q=>h q.2
theorem accI_t {w:List Int} (h:validD d=true) (hw:okW d w):accI d w=d.acc 0 (toN w):=if_pos ⟨h,hw⟩
theorem endI_f {q:Nat} {w:List Int} (h:¬ okW d w):endI d q w=-1:=if_neg h
theorem endI_t {q:Nat} {w:List Int} (h:okW d w):endI d q w=(d.run q (toN w):Int):=if_pos h
theorem okW_end {q:Nat} {w:List Int} (h:0≤endI d q w):okW d w∧endI d q w=(d.run q (toN w):Int):=by
  by_cases hw:okW d w
  · exact ⟨hw,endI_t hw⟩
  · rw [endI_f hw] at h;omega
theorem okW_neg {q:Nat} {w:List Int} (h:endI d q w<0):¬ okW d w:=fun hw=>by rw [endI_t hw] at h;omega
/-! generated automata -/
def gRow (l:List Int) (size:Int) (n:Int) (i:Nat):List Int:=(List.range size.toNat).map fun s:Nat=>atL l (9+size*(i:Int)+(s:Int)) n
def gFin (l:List Int) (i:Nat):Bool:=decide (atL l (2+(i:Int)) 3=1)
def gN (l:List Int):Int:=1+atL l 1 7
def sizedP (l:List Int) (size:Int):Dfa:=⟨size,(List.range (gN l).toNat).map (gRow l size (gN l)),(List.range (gN l).toNat).map (gFin l)⟩
def dfaP (l:List Int):Dfa:=sizedP l (1+atL l 0 3)
theorem gN_lt (l:List Int):1≤gN l∧gN l≤7:=by have:=atL_lt (l:=l) (i:=1) (most:=7) (by omega);unfold gN;omega
theorem gRow_len (l:List Int) (size n:Int) (i:Nat):(gRow l size n i).length=size.toNat:=by unfold gRow;simp
theorem sized_ok {l:List Int} {size:Int} (h:1≤size∧size≤64):okD (sizedP l size)∧(sizedP l size).n≤7:=by
  have hn:=gN_lt l
  have hl:(sizedP l size).next.length=(gN l).toNat:=by unfold sizedP;simp
  refine ⟨⟨⟨h,⟨by rw [hl];omega,by rw [hl];omega⟩,by rw [hl];unfold sizedP;simp⟩,fun r hr=>?_⟩,by show (sizedP l size).next.length≤7;rw [hl];omega⟩
  obtain ⟨i,_,rfl⟩:=List.mem_map.1 hr
  refine ⟨by rw [gRow_len];show ((size.toNat:Nat):Int)=size;omega,fun x hx=>?_⟩
  obtain ⟨s,_,rfl⟩:=List.mem_map.1 hx
  have:=atL_lt (l:=l) (i:=9+size*(i:Int)+(s:Int)) (most:=gN l) (by omega)
  rw [hl];omega
theorem dfa_ok (l:List Int):okD (dfaP l)∧(dfaP l).n≤7:=sized_ok (by have:=atL_lt (l:=l) (i:=0) (most:=3) (by omega);omega)
theorem rep_get {α:Type} {n i:Nat} {x:α} (h:i<n):(List.replicate n x)[i]?=some x:=by rw [List.getElem?_replicate,if_pos h]
theorem range_one (n:Nat) {α:Type} (f:Nat→α):(List.range (n+1)).map f=(List.range n).map f++[f n]:=by rw [List.range_succ,List.map_append];rfl
end
end Go.Wd

namespace Go.Wd
open Go.Am
theorem nodup_kv {K:Type} {kv:K→Value} (hk:∀ a b,kv a=kv b→a=b) {l:List K} (h:l.Nodup):(l.map kv).Nodup:=List.Pairwise.map kv (fun a b hab e=>hab (hk a b e)) h
def smallP (x:Nat×Nat):Prop:=x.1≤4611686018427387904∧x.2≤4611686018427387904
def differZ (a b:Dfa):Option (List Nat):=if validD a=true∧validD b=true∧a.size=b.size then diffP a b else none
theorem differZ_t {a b:Dfa} (h1:validD a=true) (h2:validD b=true) (h3:a.size=b.size):differZ a b=diffP a b:=if_pos ⟨h1,h2,h3⟩
theorem differZ_f {a b:Dfa} (h:¬ (validD a=true∧validD b=true∧a.size=b.size)):differZ a b=none:=if_neg h
theorem differZ_a {a b:Dfa} (h:validD a=false):differZ a b=none:=if_neg fun q=>by rw [h] at q;cases q.1
theorem differZ_b {a b:Dfa} (h:validD b=false):differZ a b=none:=if_neg fun q=>by rw [h] at q;cases q.2.1
end Go.Wd

namespace Go.Am
open Go.RowKit
section
variable {P:Program} {w0:Fr} {M0:Nat→Prop} {s:St}
theorem imp_nilownC (b j K:Nat) (e eb:TypeId) {c:Cls} {cs:List SV} (hM0:∀ b,M0 b→b<w0.w.heap.size) (hnd:Nodup s.s=true) (hb:(s.upd true K (.arr e [])).o.lookup b=some (.box eb cs)) (hj:cs[j]?=some (.v c (.sc (.slice none 0 0))))
    (hnd':Nodup (s.upd true K (.arr e [])).s=true):Imp P w0 M0 s ((s.upd true K (.arr e [])).upd false b (.box eb ((keepC b cs).set j (.own K)))):=by
  rintro a w ⟨E,hs⟩
  have h1:=hs.newArr (t:=K) (e:=e) (xs:=[]) (v:=.slice none 0 0) hnd hM0 (w':=w) ⟨rfl,rfl,rfl,Nat.le_refl _,fun _ _ _=>rfl⟩ (fun _=>Nat.le_refl _) (vals:=[]) (World.ownsRow_nil w _ _ _) (fun b hb=>by cases hb) (fun x hx=>by cases hx) (fun j d hd=>by simp [flat] at hd)
  generalize hE1:({ E with cur:=fun i=>if i=K then .slice none 0 0 else E.cur i }:Env)=E1 at h1
  have hc:E1.cur K=.slice none 0 0:=by rw [← hE1];simp
  refine ⟨E1,h1.upd false (fun _=>⟨rfl,.inr (.inl ⟨eb,cs,_,hb,rfl⟩)⟩) hnd' hM0 (fun i hi=>⟨rfl,rfl⟩) (.inr rfl) none ⟨rfl,rfl,rfl,Nat.le_refl _,fun _ _ _=>rfl⟩ (fun _=>Nat.le_refl _) (fun g hg=>by cases hg) (fun b' hb'=>.inl ⟨_,hb,hb'⟩) (fun rep sv=>?_)⟩
  obtain ⟨vals,g1,g2,g3,g4⟩:=h1.wok.objs b _ hb
  refine ⟨vals,g1,g2,by simpa [keepC] using g3,fun i d hd=>?_⟩
  by_cases hi:j=i
  · subst hi
    have hjl:j<cs.length:=(List.getElem?_eq_some_iff.1 hj).1
    rw [List.getElem?_set_self (by simpa [keepC] using hjl)] at hd
    simp only [Option.some.injEq] at hd
    subst hd
    have:=g4 j _ hj
    refine ⟨rfl,this.2.1,fun e' xs' _=>?_⟩
    rw [hc]
    have h5:Rep w _ (vals.getD j undef) (.sc (.slice none 0 0)):=this.2.2
    generalize vals.getD j undef=u at h5 ⊢
    cases h5;rfl
  · rw [List.getElem?_set_ne hi] at hd
    simp only [keepC,List.getElem?_map,Option.map_eq_some_iff] at hd
    obtain ⟨d0,hd0,rfl⟩:=hd
    have:=g4 i d0 hd0
    split
    · exact ⟨this.1,this.2.1,sv _ _ this.2.2 ‹_›⟩
    · exact ⟨rfl,this.2.1,trivial⟩
theorem code_nilownC {y:Code} {Q:Exit→St→Prop} (b j K:Nat) (e eb:TypeId) {c:Cls} {cs:List SV} (hM0:∀ b,M0 b→b<w0.w.heap.size) (hnd:Nodup s.s=true) (hb:(s.upd true K (.arr e [])).o.lookup b=some (.box eb cs)) (hj:cs[j]?=some (.v c (.sc (.slice none 0 0))))
    (hnd':Nodup (s.upd true K (.arr e [])).s=true) (h:CodeOk P w0 M0 y ((s.upd true K (.arr e [])).upd false b (.box eb ((keepC b cs).set j (.own K)))) Q):CodeOk P w0 M0 y s Q :=
  CodeOk.imp (imp_nilownC b j K e eb hM0 hnd hb hj hnd') h
end
end Go.Am

