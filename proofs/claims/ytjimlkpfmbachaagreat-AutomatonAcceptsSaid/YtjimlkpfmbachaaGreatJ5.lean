/-
  Functions of two results,of none;small lemmas for walks.
-/
import Derived.Test.YtjimlkpfmbachaaGreatJ4
import Derived.Lib.SmallJoins
set_option linter.unusedVariables false
set_option linter.unusedSectionVars false
set_option linter.unusedSimpArgs false
namespace Go.Am
open Go.RowKit

def boxCells:SV→List SV
  | .v c (.agg cs)=>cs.map (.v c)
  | d=>[d]
def SV.oneV:SV→Bool
  | .v _ (.tup _)=>false
  | _=>true
def spl {α:Type} (l:List α) (off:Nat) (m:List α):List α:=l.take off++m++l.drop (off+m.length)
theorem spl_length {α:Type} {l m:List α} {off:Nat} (h:off+m.length≤l.length):(spl l off m).length=l.length:=by simp [spl];omega
theorem spl_get {α:Type} {l m:List α} {off:Nat} (h:off+m.length≤l.length) (j:Nat):(spl l off m)[j]?=if off≤j∧j<off+m.length then m[j-off]? else l[j]?:=by
  unfold spl
  rw [List.append_assoc]
  have ht:(l.take off).length=off:=by simp;omega
  rcases Nat.lt_or_ge j off with h1|h1
  · rw [List.getElem?_append_left (by omega),List.getElem?_take,if_pos h1,if_neg (by omega)]
  · rw [List.getElem?_append_right (by omega), ht]
    rcases Nat.lt_or_ge (j-off) m.length with h2|h2
    · rw [List.getElem?_append_left h2,if_pos (by omega)]
    · rw [List.getElem?_append_right h2, List.getElem?_drop, if_neg (by omega)]
      congr 1;omega

section
variable {P:Program} {w0:Fr} {M0:Nat→Prop}
variable {o:Oper} {ρ:Operand→Option SV} {ob:List (Nat×Ob)} {d:SV} {x y:Operand} {T T' e:TypeId} {k b:Nat} {c:Cls} {id off:Nat} {cs:List SV} {s:St} {t:Nat}

theorem boxCells_ok {w:World} {E:Env} {ob:List (Nat×Ob)} {v:Value} {d:SV} (h:SVok P M0 w E ob v d) (hd:d≠.dead) (h1:d.oneV=true) (ho:(∃ c a,d=.v c a)∨v.oneCell'=true) :
    v.cells.size=(boxCells d).length∧∀ (j:Nat) sv,(boxCells d)[j]?=some sv→SV.leaf sv=true∧(v.cells.getD j undef).oneCell'=true∧SVok P M0 w E ob (v.cells.getD j undef) sv:=by
  have single:∀ (u:Value),u.oneCell'=true→u.cells=#[u]:=by intro u hu;cases u<;>simp_all [Value.cells,Value.oneCell']
  have triv:(∀ sv:SV,boxCells d=[d]→SV.leaf d=true→v.oneCell'=true→v.cells.size=(boxCells d).length∧∀ (j:Nat) sv,(boxCells d)[j]?=some sv→SV.leaf sv=true∧(v.cells.getD j undef).oneCell'=true∧SVok P M0 w E ob (v.cells.getD j undef) sv):=by
    intro _ hb hl hv
    rw [hb,single v hv]
    refine ⟨rfl,fun j sv hj=>?_⟩
    cases j with
    | zero=>simp at hj;subst hj;exact ⟨hl,hv,h⟩
    | succ j=>simp at hj
  cases d with
  | v c d =>
    have hnt:∀ vs,d≠.tup vs:=fun vs he=>by subst he;cases h1
    have hr:Rep w (clsM M0 (owned E ob) c) v d:=h
    obtain ⟨g1,g2,g3⟩:=hr.cells hnt
    cases d with
    | agg cs =>
      refine ⟨by simp [g1,boxCells,AV.cells],fun j sv hj=>?_⟩
      simp only [boxCells,List.getElem?_map,Option.map_eq_some_iff] at hj
      obtain ⟨a,ha,rfl⟩:=hj
      have h2:=g2 j a ha
      have h3:=g3 j a ha
      exact ⟨h2,h3.one h2,h3⟩
    | sc u=>exact triv .dead rfl rfl (hr.one rfl)
    | sl xs=>exact triv .dead rfl rfl (hr.one rfl)
    | tup xs=>exact absurd rfl (hnt xs)
    | pc a b=>exact triv .dead rfl rfl (hr.one rfl)
    | clo a b=>exact triv .dead rfl rfl (hr.one rfl)
    | mp a b=>exact triv .dead rfl rfl (hr.one rfl)
  | own i=>exact triv .dead rfl rfl (by rcases ho with ⟨c,a,h⟩|h;cases h;exact h)
  | pel i j q=>exact triv .dead rfl rfl (by rcases ho with ⟨c,a,h⟩|h;cases h;exact h)
  | pbox i q=>exact triv .dead rfl rfl (by rcases ho with ⟨c,a,h⟩|h;cases h;exact h)
  | omap i=>exact triv .dead rfl rfl (by rcases ho with ⟨c,a,h⟩|h;cases h;exact h)
  | vsl i j q=>exact triv .dead rfl rfl (by rcases ho with ⟨c,a,h⟩|h;cases h;exact h)
  | fn i j=>exact triv .dead rfl rfl (by rcases ho with ⟨c,a,h⟩|h;cases h;exact h)
  | nst i=>exact triv .dead rfl rfl (by rcases ho with ⟨c,a,h⟩|h;cases h;exact h)
  | nel i j=>exact triv .dead rfl rfl (by rcases ho with ⟨c,a,h⟩|h;cases h;exact h)
  | dead=>exact absurd rfl hd

theorem SimE.newBox {E:Env} {a:Act} {w:World} {cells:Array Value} (h:SimE P w0 M0 E s a w) (hnd:Nodup s.s=true) (hM0:∀ b,M0 b→b<w0.w.heap.size) (hpt:t<1000000) (hl:cells.size=cs.length)
    (hc:∀ (j:Nat) sv,cs[j]?=some sv→SV.leaf sv=true∧(cells.getD j undef).oneCell'=true∧SVok P M0 w E s.o (cells.getD j undef) sv∧sv.stays true t=true) :
    SimE P w0 M0 { E with blk:=fun i=>if i=t then w.heap.size else E.blk i } (s.upd true t (.box e cs)) a (w.alloc (.cells cells e)):=by
  refine h.upd true (fun h=>by cases h) hnd hM0 (fun i hi=>⟨rfl,by simp [hi]⟩) (.inl (pin_ne hpt)) none (World.grownBy_alloc w _ none) (fun _=>Nat.le_refl _) (fun g hg=>by cases hg) (fun b hb=>.inr ?_) (fun rep sv=>?_)
  · simp only [ownB,if_true] at hb;omega
  · refine ⟨cells.toList, by simp only [if_true]; simpa using heap_alloc_new w (.cells cells e), by simp only [if_true]; exact h.wok.new_free hM0 (Nat.le_refl _), by simpa using hl, fun j d hd => ?_⟩
    obtain ⟨h1,h2,h3,h4⟩:=hc j d hd
    have e1:cells.toList.getD j undef=cells.getD j undef:=by rw [List.getD_eq_getElem?_getD,Array.getD_eq_getD_getElem?,Array.getElem?_toList]
    rw [e1]
    exact ⟨h1,h2,sv _ _ h3 h4⟩
theorem sv_box_new {w:World} {E:Env} {o:List (Nat×Ob)} {n:Nat} {cs:List SV}:SVok P M0 w { E with blk:=fun i=>if i=t then n else E.blk i } (ins t (.box e cs) o) (.pointer (some ⟨n,0,none⟩)) (.pbox t 0):=by
  intro e' cs' _
  simp

theorem step_alloc {zs:List Value} (ho:o.op=.alloc T) (hd:o.dst=some t) (hn:Nat.blt t s.n=true) (hpt:Nat.blt t 1000000=true) (hnd:Nodup s.s=true) (hz:zeroOf P T=some zs) (hzs:zs.all Value.oneCell'=true) (hM0:∀ b,M0 b→b<w0.w.heap.size) :
    Step P w0 M0 o s ((s.upd true t (.box T (zs.map fun z=>.v .pl (.sc z)))).put t (.pbox t 0)):=by
  rintro a w Q ⟨E,hs⟩
  unfold zeroOf at hz
  cases hi:P.info? T with
  | none=>rw [hi] at hz;cases hz
  | some it =>
    rw [hi] at hz
    simp only [Option.bind_some,Option.map_eq_some_iff] at hz
    obtain ⟨z,hz1,hz2⟩:=hz
    unfold Oper.wp
    have hexec:(execOp a.eval o).run P w=.ok (.value (.pointer (some ⟨w.heap.size,0,none⟩))) (w.alloc (.cells z.cells T)):=by
      simp [execOp,ho,Instr.alloc,zeroValue,typeInfo,hi,hz1,newVar,newRow]
    rw [hexec]
    simp only [Oper.upon,hd]
    refine ⟨{ E with blk:=fun i=>if i=t then w.heap.size else E.blk i },SimE.put ?_ (by simpa [St.upd] using hn) sv_box_new⟩
    refine hs.newBox hnd hM0 (Nat.lt_of_lt_of_le (Nat.lt_of_succ_le (Nat.le_of_ble_eq_true hpt)) (Nat.le_refl _)) (by rw [← hz2];simp) (fun j sv hj=>?_)
    rw [List.getElem?_map,Option.map_eq_some_iff] at hj
    obtain ⟨u,hu,rfl⟩:=hj
    have h1:u.oneCell'=true:=by rw [List.all_eq_true] at hzs;exact hzs u (List.mem_of_getElem? hu)
    have h2:z.cells.getD j undef=u:=by rw [Array.getD_eq_getD_getElem?,← Array.getElem?_toList,hz2,hu];rfl
    rw [h2]
    exact ⟨rfl,h1,.sc u h1,rfl⟩
theorem step_box (ho:o.op=.box T x) (hd:o.dst=some t) (hn:Nat.blt t s.n=true) (hpt:Nat.blt t 1000000=true) (hnd:Nodup s.s=true) {a0:AV} (hx:s.ev x=some (.v c a0)) (hnt:notTup a0=true) (hc:c≠.vw) (hM0:∀ b,M0 b→b<w0.w.heap.size) :
    Step P w0 M0 o s ((s.upd true t (.box T (boxCells (.v c a0)))).put t (.pbox t 0)):=by
  rintro a w Q ⟨E,hs⟩
  have hv:=hs.ev hx
  obtain ⟨g1,g2⟩:=boxCells_ok hv (by simp) (by cases a0<;>simp_all [SV.oneV,notTup]) (.inl ⟨c,a0,rfl⟩)
  unfold Oper.wp
  have hexec:(execOp a.eval o).run P w=.ok (.value (.pointer (some ⟨w.heap.size,0,none⟩))) (w.alloc (.cells (a.eval x).cells T)):=by
    simp [execOp,ho,Instr.box,newVar,newRow]
  rw [hexec]
  simp only [Oper.upon,hd]
  refine ⟨{ E with blk:=fun i=>if i=t then w.heap.size else E.blk i },SimE.put ?_ (by simpa [St.upd] using hn) sv_box_new⟩
  refine hs.newBox hnd hM0 (Nat.lt_of_lt_of_le (Nat.lt_of_succ_le (Nat.le_of_ble_eq_true hpt)) (Nat.le_refl _)) g1 (fun j sv hj=>?_)
  obtain ⟨h1,h2,h3⟩:=g2 j sv hj
  refine ⟨h1,h2,h3,?_⟩
  have:∃ d',sv=.v c d':=by
    cases a0<;>simp only [boxCells] at hj
    case agg cs=>rw [List.getElem?_map,Option.map_eq_some_iff] at hj;obtain ⟨u,_,rfl⟩:=hj;exact ⟨u,rfl⟩
    all_goals (cases j<;>simp at hj;subst hj;exact ⟨_,rfl⟩)
  obtain ⟨d',rfl⟩:=this
  cases c<;>first|rfl|exact absurd rfl hc
theorem pure_box {a0 : AV} (ho : o.op = .box T x) (hx : viewAt ρ ob x = some (c, a0)) (hnt : notTup a0 = true) (hM0 : ∀ b, M0 b → b < w0.w.heap.size) : Pure P w0 M0 o ρ ob (.v c (.pc a0.cells 0)) :=
  pure_value fun E w ev hw h=>by
    have hr:=viewAt_ok hw h hx
    obtain ⟨g1,g2,g3⟩:=hr.cells (fun vs he=>by subst he;cases hnt)
    have hb:BelowD w0.dr w.heap.size w (w.alloc (.cells (ev x).cells T)):=(Below.refl _ _).alloc (Nat.le_refl _) _
    refine ⟨.pointer (some ⟨w.heap.size,0+0,none⟩),w.alloc (.cells (ev x).cells T),by simp [execOp,ho,Instr.box,newVar,newRow],hb,
      .pc _ 0 0 _ (fun j=>(ev x).cells.getD j undef) (fun hM=>?_) (by simp) (fun j hj=>?_) g2 (fun j d hd=>(g3 j d hd).under hb)⟩
    · cases c with
      | pl =>
        rcases hM with hM|hM
        · have:=hM0 _ hM;have:=hw.below.size;omega
        · have:=(hw.owned_range hM).2;omega
      | mx=>have:=(hw.owned_range hM).2;omega
      | vw=>exact hM
    · rw [cell_of_row _ w.heap.size (0+j) _ T (0,0) (heap_alloc_new w _),Nat.zero_add,Array.getD_eq_getD_getElem?,Array.getElem?_eq_getElem (by omega)];rfl

theorem fldOf_run {f fo fk:Nat} {fg:Bool} (hT:fldOf P T f=some (fo,fk+1,fg)) (w:World) (g p:Nat):(Instr.fieldAt T (.pointer (some ⟨g,p,none⟩)) f).run P w=.ok (.pointer (some ⟨g,p+fo,none⟩)) w:=by
  unfold fldOf at hT
  split at hT
  · rename_i fs hs
    cases hf:fs[f]? with
    | none=>rw [hf] at hT;cases hT
    | some fd =>
      rw [hf] at hT
      simp only [Option.bind_some,Option.bind_eq_some_iff,Option.map_eq_some_iff,Prod.mk.injEq] at hT
      obtain ⟨k1,hk1,g1,hg1,hT1,hT2,_⟩:=hT
      subst hT2
      simp [Instr.fieldAt,run_underlying hs,hf,Instr.sureAddr,fieldPlace,run_size hk1,Addr.add_lit,hT1]
  · cases hT
theorem pure_field_box {f fo fk:Nat} {fg:Bool} (ho:o.op=.fieldAddr T x f) (hT:fldOf P T f=some (fo,fk+1,fg)) (hx:ρ x=some (.pbox id off)) (hl:ob.lookup id=some (.box e cs)):Pure P w0 M0 o ρ ob (.pbox id (off+fo)) :=
  pure_value fun E w ev hw h=>by
    have hr:=h x _ hx e cs hl
    exact ⟨_,w,by simp only [execOp,ho,hr,Sem.run_bind,fldOf_run hT,Result.andThen_ok,Sem.run_pure],.refl _ _,fun e' cs' h'=>rfl⟩
theorem pure_field_pel {f fo fk i:Nat} {fg:Bool} {xs:List AV} (ho:o.op=.fieldAddr T x f) (hT:fldOf P T f=some (fo,fk+1,fg)) (hx:ρ x=some (.pel id i off)) (hl:ob.lookup id=some (.arr e xs)):Pure P w0 M0 o ρ ob (.pel id i (off+fo)) :=
  pure_value fun E w ev hw h=>by
    obtain ⟨hi,g,hg,hr⟩:=h x _ hx e xs hl
    refine ⟨_,w,by simp only [execOp,ho,hr,Sem.run_bind,fldOf_run hT,Result.andThen_ok,Sem.run_pure];rfl,.refl _ _,fun e' xs' h'=>?_⟩
    rw [hl] at h'
    simp only [Option.some.injEq,Ob.arr.injEq] at h'
    obtain ⟨rfl,rfl⟩:=h'
    exact ⟨hi,g,hg,by rw [Nat.add_assoc]⟩
theorem pure_load_box {sv:SV} (ho:o.op=.load T x) (hT:isAggOf P T=some false) (hx:ρ x=some (.pbox id off)) (hl:ob.lookup id=some (.box e cs)) (he:cs[off]?=some sv):Pure P w0 M0 o ρ ob sv :=
  pure_value fun E w ev hw h=>by
    have hr:=h x _ hx e cs hl
    obtain ⟨vals,h1,h2,h3,h4⟩:=hw.objs id _ hl
    refine ⟨vals.getD off undef,w,?_,.refl _ _,(h4 off sv he).2.2⟩
    have hlt:off<vals.length:=by rw [h3];exact (List.getElem?_eq_some_iff.1 he).1
    have hc:w.cell? ⟨E.blk id,off,none⟩=some (vals.getD off undef):=by
      rw [cell_of_row w _ off _ e (0,0) h1]
      simp [List.getD_eq_getElem?_getD,List.getElem?_eq_getElem hlt]
    simp [execOp,ho,hr,Instr.loadAt,Instr.sureAddr,loadVar,run_isAggOf hT,hc]
def cellsView (ob : List (Nat × Ob)) : List SV → Option (Cls × List AV)
  | []=>some (.pl,[])
  | d :: r => match view ob d, cellsView ob r with
    | some (c,a),some (c',as)=>bif a.leaf then some (c.max c',a :: as) else none
    | _,_=>none
theorem cellsView_ok {E : Env} {w : World} (hw : WOk P w0 M0 E ob w) : ∀ (l : List SV) (vs : List Value) (c : Cls) (as : List AV), vs.length = l.length → (∀ (j : Nat) d, l[j]? = some d → SVok P M0 w E ob (vs.getD j undef) d) → cellsView ob l = some (c, as) →
    l.length=as.length∧∀ (j:Nat) a,as[j]?=some a→AV.leaf a=true∧Rep w (clsM M0 (owned E ob) c) (vs.getD j undef) a
  | [], vs, c, as, _, _, hv => by
    simp only [cellsView,Option.some.injEq,Prod.mk.injEq] at hv
    obtain ⟨rfl,rfl⟩:=hv
    exact ⟨rfl,fun j a h=>by simp at h⟩
  | d :: r, vs, c, as, hl, h, hv => by
    cases vs with
    | nil=>simp at hl
    | cons v vs =>
      unfold cellsView at hv
      split at hv
      · rename_i c1 a1 c2 as2 h1 h2
        cases hlf:a1.leaf with
        | false=>rw [hlf] at hv;cases hv
        | true =>
          rw [hlf] at hv
          simp only [cond_true,Option.some.injEq,Prod.mk.injEq] at hv
          obtain ⟨rfl,rfl⟩:=hv
          obtain ⟨g1,g2⟩:=cellsView_ok hw r vs c2 as2 (by simpa using hl) (fun j d hd=>by simpa using h (j+1) d (by simpa using hd)) h2
          refine ⟨by simp [g1],fun j a ha=>?_⟩
          cases j with
          | zero =>
            simp only [List.getElem?_cons_zero,Option.some.injEq] at ha
            subst ha
            exact ⟨hlf,(view_ok hw (by simpa using h 0 d rfl) h1).weak (clsM_max1 c1 c2)⟩
          | succ j =>
            have:=g2 j a (by simpa using ha)
            exact ⟨this.1,by simpa using this.2.weak (clsM_max2 c1 c2)⟩
      · cases hv
theorem pure_load_box_agg {as : List AV} (ho : o.op = .load T x) (hT : isAggOf P T = some true) (hk : szOf P T = some k) (hx : ρ x = some (.pbox id off)) (hl : ob.lookup id = some (.box e cs)) (hle : Nat.ble (off + k) cs.length = true) (hv : cellsView ob ((cs.drop off).take k) = some (c, as)) :
    Pure P w0 M0 o ρ ob (.v c (.agg as)) :=
  pure_value fun E w ev hw h=>by
    have hr:=h x _ hx e cs hl
    have hle':=Nat.le_of_ble_eq_true hle
    obtain ⟨vals,h1,h2,h3,h4⟩:=hw.objs id _ hl
    have hvl:((vals.drop off).take k).length=((cs.drop off).take k).length:=by simp;omega
    obtain ⟨g1,g2⟩:=cellsView_ok hw ((cs.drop off).take k) ((vals.drop off).take k) c as hvl (fun j d hd=>by
      rw [List.getElem?_take] at hd
      split at hd
      · rename_i hj
        rw [List.getElem?_drop] at hd
        have:=(h4 _ d hd).2.2
        rw [List.getD_eq_getElem?_getD] at this ⊢
        rwa [List.getElem?_take,if_pos hj,List.getElem?_drop]
      · cases hd) hv
    have hcell:=run_loadCells (P:=P) w ⟨E.blk id,off,none⟩ k (fun j=>vals.getD (off+j) undef) (fun j hj=>by
      rw [Addr.add_lit,cell_of_row w _ (off+j) _ e (0,0) h1]
      have:off+j<vals.length:=by omega
      simp [List.getD_eq_getElem?_getD,List.getElem?_eq_getElem this])
    have hkl:((vals.drop off).take k).length=k:=by simp;omega
    refine ⟨.agg ((vals.drop off).take k).toArray,w,?_,.refl _ _,.agg _ _ (by rw [hvl,g1]) (fun j d hd=>(g2 j d hd).1) (fun j d hd=>(g2 j d hd).2)⟩
    have e1:(List.range k).map (fun j=>vals.getD (off+j) undef)=(vals.drop off).take k:=by
      apply List.ext_getElem?
      intro j
      simp only [List.getElem?_map,List.getElem?_take,List.getElem?_drop]
      rcases Nat.lt_or_ge j k with hj|hj
      · rw [if_pos hj]
        have:off+j<vals.length:=by omega
        simp [hj,List.getD_eq_getElem?_getD,List.getElem?_eq_getElem this]
      · rw [if_neg (by omega)];simp;omega
    simp only [execOp,ho,hr,Instr.loadAt,Instr.sureAddr,loadVar,Sem.run_bind,run_isAggOf hT,run_size hk,Result.andThen_ok,Sem.run_pure,if_true,hcell,e1]
end
end Go.Am

namespace Go.Am
open Go.RowKit

def keepC (id:Nat) (cs:List SV):List SV:=cs.map fun d=>if d.stays false id then d else .dead
def reCell (el:AV) (cs:List AV):AV:=match el with
  | .agg _=>.agg cs
  | _=>cs.headD el
theorem reCell_cells {el:AV} {cs:List AV} (h:cs.length=el.cells.length) (hl:∀ d∈cs,AV.leaf d=true):(reCell el cs).cells=cs:=by
  have one:el.cells.length=1→(∀ c,el≠.agg c)→(reCell el cs).cells=cs:=by
    intro h1 hna
    match cs,h,hl with
    | [d], _, hl =>
      have hd:=hl d (by simp)
      have:reCell el [d]=d:=by cases el<;>first|rfl|exact absurd rfl (hna _)
      rw [this]
      cases d<;>simp_all [AV.cells,AV.leaf]
    | [],h,_=>simp at h;omega
    | _ :: _ :: _,h,_=>simp at h;omega
  cases el with
  | agg c=>rfl
  | sc v=>exact one rfl (by simp)
  | sl v=>exact one rfl (by simp)
  | tup v=>exact one rfl (by simp)
  | pc v w=>exact one rfl (by simp)
  | clo v w=>exact one rfl (by simp)
  | mp v w=>exact one rfl (by simp)
theorem flat_set {k off:Nat} {xs:List AV} {i:Nat} {el el':AV} {m:List AV} (hk:∀ x∈xs,(AV.cells x).length=k) (hi:xs[i]?=some el) (hm:off+m.length≤k) (he:el'.cells=spl el.cells off m) :
    flat (xs.set i el')=spl (flat xs) (i*k+off) m:=by
  induction xs generalizing i with
  | nil=>simp at hi
  | cons x r ih =>
    have hx:=hk x List.mem_cons_self
    have hr:∀ y∈r,(AV.cells y).length=k:=fun y hy=>hk y (List.mem_cons_of_mem _ hy)
    cases i with
    | zero =>
      simp only [List.getElem?_cons_zero,Option.some.injEq] at hi
      subst hi
      simp only [List.set_cons_zero,flat,List.flatMap_cons,Nat.zero_mul,Nat.zero_add,he,spl]
      rw [List.take_append_of_le_length (by omega),List.drop_append_of_le_length (by omega)]
      simp
    | succ i =>
      have ih':=ih hr (by simpa using hi)
      simp only [flat] at ih'
      simp only [List.set_cons_succ,flat,List.flatMap_cons,ih',spl]
      have e1:(i+1)*k+off=x.cells.length+(i*k+off):=by rw [hx,Nat.add_mul];omega
      have e2:(i+1)*k+off+m.length=x.cells.length+(i*k+off+m.length):=by omega
      rw [e2,e1,List.take_length_add_append,List.drop_length_add_append]
      simp only [List.append_assoc]

section
variable {P:Program} {w0:Fr} {M0:Nat→Prop}
variable {o:Oper} {ρ:Operand→Option SV} {ob:List (Nat×Ob)} {d:SV} {x y:Operand} {T T' e:TypeId} {k b:Nat} {c:Cls} {id off:Nat} {cs:List SV} {s:St} {t:Nat} {xs:List AV}

theorem run_storeVar {w:World} {v:Value} {g p:Nat} {cur:Array Value} (hk:szOf P T=some k) (hv:v.cells.size=k) (hg:w.heap[g]?=some (.cells cur e (0,0))) (hl:p+k≤cur.size) (h1:∀ u∈v.cells.toList,u.oneCell'=true) :
    (storeVar T ⟨g,p,none⟩ v).run P w=.ok () (w.setRow g (spl cur.toList p v.cells.toList).toArray):=by
  have:=run_storeCells_at P g p e v.cells.toList 0 cur w hg (by simp;omega) h1
  simp only [Nat.add_zero] at this
  simp [storeVar,run_size hk,hv,this,spl]
theorem setRow_grown {w:World} {g:Nat} {cs:Array Value}:w.grownBy (w.setRow g cs) (some g):=⟨rfl,rfl,rfl,by simp [World.setRow],fun k _ hk=>setRow_other w g k _ (fun he=>hk (by rw [he]))⟩

theorem step_store_box {a0 : AV} (ho : o.op = .store T x y) (hd : o.dst = none) (hnd : Nodup s.s = true) (hk : szOf P T = some k) (hx : s.ev x = some (.pbox id off)) (hl : s.o.lookup id = some (.box e cs)) (hy : s.ev y = some (.v c a0)) (hnt : notTup a0 = true) (hc : c ≠ .vw)
    (hn:(boxCells (.v c a0)).length=k) (hle:Nat.ble (off+k) cs.length=true) (hM0:∀ b,M0 b→b<w0.w.heap.size):Step P w0 M0 o s (s.upd false id (.box e (spl (keepC id cs) off (boxCells (.v c a0))))):=by
  rintro a w Q ⟨E,hs⟩
  have hle':=Nat.le_of_ble_eq_true hle
  have hxv:=hs.ev hx e cs hl
  obtain ⟨g1,g2⟩:=boxCells_ok (hs.ev hy) (by simp) (by cases a0<;>simp_all [SV.oneV,notTup]) (.inl ⟨c,a0,rfl⟩)
  obtain ⟨vals,h1,h2,h3,h4⟩:=hs.wok.objs id _ hl
  have hvs:(a.eval y).cells.size=k:=by rw [g1,hn]
  have hone:∀ u∈(a.eval y).cells.toList,u.oneCell'=true:=by
    intro u hu
    obtain ⟨j,hj,rfl⟩:=List.getElem_of_mem hu
    have hj':j<(boxCells (.v c a0)).length:=by rw [← g1];simpa using hj
    have:=(g2 j _ (List.getElem?_eq_getElem hj')).2.1
    rw [Array.getD_eq_getD_getElem?] at this
    simp only [Array.length_toList] at hj
    simpa [hj] using this
  have hrun:=run_storeVar (P:=P) (w:=w) (p:=off) hk hvs h1 (by simp;omega) hone
  unfold Oper.wp
  have hexec:(execOp a.eval o).run P w=.ok .skip (w.setRow (E.blk id) (spl vals off (a.eval y).cells.toList).toArray):=by
    simp [execOp,ho,hxv,Instr.storeAt,Instr.sureAddr,hrun]
  rw [hexec]
  simp only [Oper.upon,hd,Act.put]
  have hbl:(a.eval y).cells.toList.length=k:=by simp [hvs]
  have hspl:off+(a.eval y).cells.toList.length≤vals.length:=by omega
  refine ⟨E,hs.upd false (fun _=>⟨rfl,.inr (.inl ⟨e,cs,_,hl,rfl⟩)⟩) hnd hM0 (fun i hi=>⟨rfl,rfl⟩) (.inr rfl) (some (E.blk id)) setRow_grown (fun _=>Nat.le_refl _) (fun g hg=>⟨_,hl,by simpa [ownB] using hg⟩) (fun b hb=>.inl ⟨_,hl,hb⟩) (fun rep sv=>?_)⟩
  refine ⟨_,setRow_heap w _ _ _ e _ h1,h2,?_,fun j d hj=>?_⟩
  · rw [spl_length hspl,spl_length (by simp [keepC,hn];omega)];simp [keepC,h3]
  · rw [spl_get (by simp [keepC, hn]; omega)] at hj
    rw [List.getD_eq_getElem?_getD,spl_get hspl,hbl]
    rw [hn] at hj
    split at hj
    · rename_i hin
      rw [if_pos hin]
      obtain ⟨q1,q2,q3⟩:=g2 _ d hj
      have e1:(a.eval y).cells.toList[j-off]?.getD undef=(a.eval y).cells.getD (j-off) undef:=by rw [Array.getD_eq_getD_getElem?,Array.getElem?_toList]
      rw [e1]
      refine ⟨q1,q2,sv _ _ q3 ?_⟩
      have:∃ d',d=.v c d':=by
        cases a0<;>simp only [boxCells] at hj
        case agg cs=>rw [List.getElem?_map,Option.map_eq_some_iff] at hj;obtain ⟨u,_,rfl⟩:=hj;exact ⟨u,rfl⟩
        all_goals (cases hjj:j-off<;>rw [hjj] at hj<;>simp at hj;subst hj;exact ⟨_,rfl⟩)
      obtain ⟨d',rfl⟩:=this
      cases c<;>first|rfl|exact absurd rfl hc
    · rename_i hin
      rw [if_neg hin]
      simp only [keepC,List.getElem?_map,Option.map_eq_some_iff] at hj
      obtain ⟨d0,hd0,rfl⟩:=hj
      have:=h4 j d0 hd0
      rw [List.getD_eq_getElem?_getD] at this
      split
      · exact ⟨this.1,this.2.1,sv _ _ this.2.2 ‹_›⟩
      · exact ⟨rfl,this.2.1,trivial⟩
theorem step_store_box_own {j:Nat} {e':TypeId} (ho:o.op=.store T x y) (hd:o.dst=none) (hnd:Nodup s.s=true) (hk:szOf P T=some 1) (hx:s.ev x=some (.pbox id off)) (hl:s.o.lookup id=some (.box e cs)) (hy:s.ev y=some (.own j)) (hj:s.o.lookup j=some (.arr e' xs))
    (hle:Nat.ble (off+1) cs.length=true) (hM0:∀ b,M0 b→b<w0.w.heap.size):Step P w0 M0 o s (s.upd false id (.box e (spl (keepC id cs) off [.own j]))):=by
  rintro a w Q ⟨E,hs⟩
  have hle':=Nat.le_of_ble_eq_true hle
  have hxv:=hs.ev hx e cs hl
  have hyv:a.eval y=E.cur j:=hs.ev hy e' xs hj
  obtain ⟨vals',⟨hown,_⟩,_⟩:=hs.wok.objs j _ hj
  have hsl:∃ A n c',a.eval y=.slice A n c':=by
    rw [hyv]
    rcases hown.2 with ⟨h,_⟩|⟨g,cap,cur,h,_⟩<;>exact ⟨_,_,_,h⟩
  obtain ⟨A,n,c',hsl⟩:=hsl
  obtain ⟨vals,h1,h2,h3,h4⟩:=hs.wok.objs id _ hl
  have hrun:=run_storeVar (P:=P) (w:=w) (v:=.slice A n c') (p:=off) hk rfl h1 (by simp;omega) (by simp [Value.cells,Value.oneCell'])
  unfold Oper.wp
  have hexec:(execOp a.eval o).run P w=.ok .skip (w.setRow (E.blk id) (spl vals off [.slice A n c']).toArray):=by
    simp [execOp,ho,hxv,hsl,Instr.storeAt,Instr.sureAddr,hrun,Value.cells]
  rw [hexec]
  simp only [Oper.upon,hd,Act.put]
  have hspl:off+[Value.slice A n c'].length≤vals.length:=by simp;omega
  refine ⟨E,hs.upd false (fun _=>⟨rfl,.inr (.inl ⟨e,cs,_,hl,rfl⟩)⟩) hnd hM0 (fun i hi=>⟨rfl,rfl⟩) (.inr rfl) (some (E.blk id)) setRow_grown (fun _=>Nat.le_refl _) (fun g hg=>⟨_,hl,by simpa [ownB] using hg⟩) (fun b hb=>.inl ⟨_,hl,hb⟩) (fun rep sv=>?_)⟩
  refine ⟨_,setRow_heap w _ _ _ e _ h1,h2,?_,fun j' d hj'=>?_⟩
  · rw [spl_length hspl,spl_length (by simp [keepC];omega)];simp [keepC,h3]
  · rw [spl_get (by simp [keepC]; omega)] at hj'
    rw [List.getD_eq_getElem?_getD,spl_get hspl]
    simp only [List.length_singleton] at hj' ⊢
    split at hj'
    · rename_i hin
      rw [if_pos hin]
      have hz:j'-off=0:=by omega
      rw [hz] at hj' ⊢
      simp only [List.getElem?_cons_zero,Option.some.injEq] at hj'
      subst hj'
      simp only [List.getElem?_cons_zero,Option.getD_some]
      refine ⟨rfl,rfl,sv _ _ ?_ rfl⟩
      rw [← hsl]
      exact hs.ev hy
    · rename_i hin
      rw [if_neg hin]
      simp only [keepC,List.getElem?_map,Option.map_eq_some_iff] at hj'
      obtain ⟨d0,hd0,rfl⟩:=hj'
      have:=h4 j' d0 hd0
      rw [List.getD_eq_getElem?_getD] at this
      split
      · exact ⟨this.1,this.2.1,sv _ _ this.2.2 ‹_›⟩
      · exact ⟨rfl,this.2.1,trivial⟩

theorem pure_index_own {q : IntKind} {i : Int} (ho : o.op = .indexAddr T x y) (hT : P.underlying T = some (.slice e)) (hk : szOf P e = some k) (hx : ρ x = some (.own id)) (hl : ob.lookup id = some (.arr e xs)) (hy : scal ρ y = some (.int q i)) (h : 0 ≤ i ∧ i < xs.length) :
    Pure P w0 M0 o ρ ob (.pel id i.toNat 0) :=
  pure_value fun E w ev hw hh=>by
    have hr:=hh x _ hx e xs hl
    have hi:=scal_ok hh hy
    obtain ⟨vals,⟨hown,hownF⟩,h2,h3⟩:=hw.objs id _ hl
    rcases hown.2 with ⟨hv,hn⟩|⟨g,cap,cur,hv,_⟩
    · omega
    · rw [hv] at hr
      have hel:P.elem T=e:=by simp [Program.elem,hT]
      refine ⟨.pointer (some ⟨g,i.toNat*P.cellsOf e+0,none⟩),w,?_,.refl _ _,fun e' xs' h'=>?_⟩
      · have hin : 0 ≤ i ∧ i < (xs.length : Int) := h
        simp [execOp,ho,hr,hi,run_indexAt_slice,hel,hT,hin,run_size hk,cellsOf_of hk,Addr.add_lit]
      · rw [hl] at h'
        simp only [Option.some.injEq,Ob.arr.injEq] at h'
        obtain ⟨rfl,rfl⟩:=h'
        exact ⟨by omega,g,by rw [hv];rfl,rfl⟩
theorem pure_load_pel {i:Nat} {el a0:AV} (ho:o.op=.load T x) (hT:isAggOf P T=some false) (hx:ρ x=some (.pel id i off)) (hl:ob.lookup id=some (.arr e xs)) (he:xs[i]?=some el) (hc:el.cells[off]?=some a0):Pure P w0 M0 o ρ ob (.v .pl a0) :=
  pure_value fun E w ev hw h=>by
    obtain ⟨hi,g,hg,hr⟩:=h x _ hx e xs hl
    obtain ⟨vals,⟨hown,hownF⟩,h2,h3⟩:=hw.objs id _ hl
    have hoff:off<P.cellsOf e:=by rw [← h2 el (List.mem_of_getElem? he)];exact (List.getElem?_eq_some_iff.1 hc).1
    have hfl:(flat xs)[i*P.cellsOf e+off]?=some a0:=by rw [flat_get xs i el h2 he off hoff];exact hc
    have hvl:i*P.cellsOf e+off<vals.length:=by
      rw [hown.1,← flat_length xs h2];exact (List.getElem?_eq_some_iff.1 hfl).1
    have hcell:=hown.cells hg (i*P.cellsOf e+off) _ (List.getElem?_eq_getElem hvl)
    rw [Addr.add_lit,Nat.zero_add] at hcell
    refine ⟨vals.getD (i*P.cellsOf e+off) undef,w,?_,.refl _ _,(h3 _ a0 hfl).2⟩
    simp [execOp,ho,hr,Instr.loadAt,Instr.sureAddr,loadVar,run_isAggOf hT,hcell,List.getD_eq_getElem?_getD,List.getElem?_eq_getElem hvl]
theorem pure_load_pel_agg {i:Nat} {el:AV} (ho:o.op=.load T x) (hT:isAggOf P T=some true) (hk:szOf P T=some k) (hx:ρ x=some (.pel id i 0)) (hl:ob.lookup id=some (.arr e xs)) (hck:szOf P e=some k) (he:xs[i]?=some el):Pure P w0 M0 o ρ ob (.v .pl (.agg el.cells)) :=
  pure_value fun E w ev hw h=>by
    obtain ⟨hi,g,hg,hr⟩:=h x _ hx e xs hl
    obtain ⟨vals,⟨hown,hownF⟩,h2,h3⟩:=hw.objs id _ hl
    have hce:=cellsOf_of hck
    rw [hce] at hr hown h2
    have hel:=h2 el (List.mem_of_getElem? he)
    have hvl:vals.length=xs.length*k:=hown.1
    have hmul:i*k+k≤xs.length*k:=by rw [← Nat.succ_mul];exact Nat.mul_le_mul_right _ (by omega)
    have hcell:=run_loadCells (P:=P) w ⟨g,i*k,none⟩ k (fun j=>vals.getD (i*k+j) undef) (fun j hj=>by
      have hj':i*k+j<vals.length:=by omega
      have:=hown.cells hg (i*k+j) _ (List.getElem?_eq_getElem hj')
      rw [Addr.add_lit,Nat.zero_add] at this
      rw [Addr.add_lit,this,List.getD_eq_getElem?_getD,List.getElem?_eq_getElem hj'];rfl)
    refine ⟨.agg ((List.range k).map fun j=>vals.getD (i*k+j) undef).toArray,w,?_,.refl _ _,.agg _ _ (by simp [hel]) (fun j d hd=>?_) (fun j d hd=>?_)⟩
    · simp only [execOp,ho,hr,Instr.loadAt,Instr.sureAddr,loadVar,Sem.run_bind,run_isAggOf hT,run_size hk,Result.andThen_ok,Sem.run_pure,if_true,Nat.add_zero,hcell]
    · have hj : j < k := by rw [← hel]; exact (List.getElem?_eq_some_iff.1 hd).1
      exact (h3 (i*k+j) d (by rw [flat_get xs i el h2 he j hj];exact hd)).1
    · have hj : j < k := by rw [← hel]; exact (List.getElem?_eq_some_iff.1 hd).1
      have:=(h3 (i*k+j) d (by rw [flat_get xs i el h2 he j hj];exact hd)).2
      rw [List.getD_eq_getElem?_getD,List.getElem?_map,List.getElem?_range hj]
      exact this

theorem step_store_pel {i : Nat} {el a0 : AV} (ho : o.op = .store T x y) (hd : o.dst = none) (hnd : Nodup s.s = true) (hk : szOf P T = some k) (hx : s.ev x = some (.pel id i off)) (hl : s.o.lookup id = some (.arr e xs)) (he : xs[i]? = some el) (hy : viewAt s.ev s.o y = some (c, a0)) (hnt : notTup a0 = true) (hc : c = .pl ∨ ∃ v, a0 = .sc v)
    (hn:a0.cells.length=k) (hle:off+k≤el.cells.length) (hM0:∀ b,M0 b→b<w0.w.heap.size):Step P w0 M0 o s (s.upd false id (.arr e (xs.set i (reCell el (spl el.cells off a0.cells))))):=by
  rintro a w Q ⟨E,hs⟩
  obtain ⟨hi,g,hg,hxv⟩:=hs.ev hx e xs hl
  have hyr:=viewAt_ok hs.wok (fun x e hx=>hs.ev hx) hy
  have hyp:Rep w (clsM M0 (owned E s.o) .pl) (a.eval y) a0:=by
    rcases hc with rfl|⟨v,rfl⟩
    · exact hyr
    · generalize a.eval y = u at hyr ⊢
      cases hyr;exact .sc _ ‹_›
  obtain ⟨g1,g2,g3⟩:=hyp.cells (fun vs hh=>by subst hh;cases hnt)
  obtain ⟨vals,⟨hown,hownF⟩,h2,h3⟩:=hs.wok.objs id _ hl
  have helk:=h2 el (List.mem_of_getElem? he)
  have hvs:(a.eval y).cells.size=k:=by rw [g1,hn]
  have hone:∀ u∈(a.eval y).cells.toList,u.oneCell'=true:=by
    intro u hu
    obtain ⟨j,hj,rfl⟩:=List.getElem_of_mem hu
    have hj':j<a0.cells.length:=by rw [← g1];simpa using hj
    have q1:=g2 j _ (List.getElem?_eq_getElem hj')
    have:=(g3 j _ (List.getElem?_eq_getElem hj')).one q1
    rw [Array.getD_eq_getD_getElem?] at this
    simp only [Array.length_toList] at hj
    simpa [hj] using this
  obtain ⟨hvl,hform⟩:=hown
  have hpos:i*P.cellsOf e+off+k≤vals.length:=by
    have:i*P.cellsOf e+P.cellsOf e≤xs.length*P.cellsOf e:=by rw [← Nat.succ_mul];exact Nat.mul_le_mul_right _ (by omega)
    omega
  rcases hform with ⟨hv,hn0⟩|⟨g',cap,cur,hv,hgb,hh,hnc,hcm,hcs,htake⟩
  · omega
  · have hgg : g' = g := by rw [hv] at hg; simpa [Value.ownBlock] using hg
    subst hgg
    have hvals:vals.length≤cur.size:=by rw [hvl,hcs];exact Nat.mul_le_mul_right _ hnc
    have hrun:=run_storeVar (P:=P) (w:=w) (p:=i*P.cellsOf e+off) hk hvs hh (by omega) hone
    unfold Oper.wp
    have hexec:(execOp a.eval o).run P w=.ok .skip (w.setRow g' (spl cur.toList (i*P.cellsOf e+off) (a.eval y).cells.toList).toArray):=by
      simp [execOp,ho,hxv,Instr.storeAt,Instr.sureAddr,hrun]
    rw [hexec]
    simp only [Oper.upon,hd,Act.put]
    have hbl:(a.eval y).cells.toList.length=k:=by simp [hvs]
    have hleaf:∀ d∈spl el.cells off a0.cells,AV.leaf d=true:=by
      intro d hd
      obtain ⟨j,hj,rfl⟩:=List.getElem_of_mem hd
      have hj2:=spl_get (l:=el.cells) (m:=a0.cells) (off:=off) (by omega) j
      rw [List.getElem?_eq_getElem hj] at hj2
      split at hj2
      · exact g2 _ _ hj2.symm
      · have hjl : j < P.cellsOf e := by rw [← helk]; rw [spl_length (by omega)] at hj; exact hj
        exact (h3 (i*P.cellsOf e+j) _ (by rw [flat_get xs i el h2 he j hjl];exact hj2.symm)).1
    have hre:=reCell_cells (el:=el) (cs:=spl el.cells off a0.cells) (by rw [spl_length (by omega)]) hleaf
    have hfs:=flat_set (off:=off) (m:=a0.cells) h2 he (by omega) hre
    have hspl:i*P.cellsOf e+off+(a.eval y).cells.toList.length≤vals.length:=by omega
    refine ⟨E,hs.upd false (fun _=>⟨rfl,.inl ⟨e,xs,_,hl,rfl,by simp⟩⟩) hnd hM0 (fun i hi=>⟨rfl,rfl⟩) (.inr rfl) (some g') setRow_grown (fun _=>Nat.le_refl _) (fun g hg'=>⟨_,hl,by simp only [Option.some.injEq] at hg';subst hg';exact hg⟩) (fun b hb=>.inl ⟨_,hl,hb⟩) (fun rep sv=>?_)⟩
    refine ⟨spl vals (i*P.cellsOf e+off) (a.eval y).cells.toList,?_,?_,fun j d hj=>?_⟩
    · refine ⟨⟨by rw [spl_length hspl, hvl, List.length_set], .inr ⟨g', cap, _, by rw [hv, List.length_set], hgb, setRow_heap w _ _ _ e _ hh, by rw [List.length_set]; exact hnc, hcm, ?_, ?_⟩⟩, hownF⟩
      · rw [List.size_toArray,spl_length (by simp;omega)];simpa using hcs
      · rw [List.length_set, ← hvl]
        have ht:cur.toList.take vals.length=vals:=by rw [hvl];exact htake
        apply List.ext_getElem?
        intro j
        rw [List.getElem?_take,spl_get (by simp;omega),spl_get hspl]
        by_cases hj:j<vals.length
        · rw [if_pos hj]
          split
          · rfl
          · have : (cur.toList.take vals.length)[j]? = cur.toList[j]? := by rw [List.getElem?_take, if_pos hj]
            rw [← this,ht]
        · rw [if_neg hj,if_neg (by omega),List.getElem?_eq_none (by omega)]
    · intro u hu
      rcases List.mem_or_eq_of_mem_set hu with h|h
      · exact h2 u h
      · subst h;rw [hre,spl_length (by omega),helk]
    · rw [hfs, spl_get (by rw [flat_length xs h2, ← hvl]; omega)] at hj
      rw [List.getD_eq_getElem?_getD,spl_get hspl,hbl]
      rw [hn] at hj
      split at hj
      · rename_i hin
        rw [if_pos hin]
        have e1:(a.eval y).cells.toList[j-(i*P.cellsOf e+off)]?.getD undef=(a.eval y).cells.getD (j-(i*P.cellsOf e+off)) undef:=by rw [Array.getD_eq_getD_getElem?,Array.getElem?_toList]
        rw [e1]
        exact ⟨g2 _ d hj,rep .pl _ _ (g3 _ d hj) (by simp)⟩
      · rename_i hin
        rw [if_neg hin]
        have:=h3 j d hj
        rw [List.getD_eq_getElem?_getD] at this
        exact ⟨this.1,rep .pl _ _ this.2 (by simp)⟩
end
end Go.Am

namespace Go.Am
open Go.RowKit

abbrev sbytes (l:List UInt8):AV:=.sc (.string ⟨l.toArray⟩)
section
variable {P:Program} {w0:Fr} {M0:Nat→Prop}
variable {o:Oper} {ρ:Operand→Option SV} {ob:List (Nat×Ob)} {d:SV} {x y z:Operand} {T T' e:TypeId} {k b:Nat} {c:Cls} {id off:Nat} {s:St} {t:Nat} {xs:List AV} {l l':List UInt8}

theorem pure_not {q:Bool} (ho:o.op=.unOp .not T x) (hx:scal ρ x=some (.bool q)):Pure P w0 M0 o ρ ob (.v .pl (.sc (.bool (!q)))) :=
  pure_scal rfl fun w ev h=>by simp [execOp,ho,h x _ hx,Op.unary]
theorem pure_neg {n:Int} (ho:o.op=.unOp .neg T x) (hx:scal ρ x=some (.int .i64 n)) (h:-9223372036854775808≤-n∧-n≤9223372036854775807):Pure P w0 M0 o ρ ob (.v .pl (int (-n))) :=
  pure_scal rfl fun w ev h'=>by
    have hw:=wrap64 (x:=0-n) (by omega) (by omega)
    simp [execOp,ho,h' x _ hx,Op.unary,Op.intArith]
    simpa using hw
theorem pure_conv {k k':IntKind} {n:Int} {ds:TypeDesc} (ho:o.op=.convert T T' x) (hs:P.underlying T=some ds) (hd:P.underlying T'=some (.int k')) (hx:scal ρ x=some (.int k n)):Pure P w0 M0 o ρ ob (.v .pl (.sc (.int k' (k'.wrap n)))) :=
  pure_scal rfl fun w ev h'=>by
    have:P.intKind T'=k':=by simp [Program.intKind,hd]
    have hr:=run_convert_int (P:=P) (w:=w) T T' k n (by rw [hs];rfl) (by rw [this];exact hd)
    rw [this] at hr
    simp [execOp,ho,h' x _ hx,hr]
theorem pure_beq {p q:Bool} (hT:P.underlying T=some .bool) (ho:o.op=.binOp .eql T x y T') (hx:scal ρ x=some (.bool p)) (hy:scal ρ y=some (.bool q)):Pure P w0 M0 o ρ ob (.v .pl (.sc (.bool (p == q)))) :=
  pure_bin ho hx hy rfl (by simp [go_sem]) (fun w=>run_eql_bool (P:=P) (w:=w) T p q hT)
theorem pure_bne {p q:Bool} (hT:P.underlying T=some .bool) (ho:o.op=.binOp .neq T x y T') (hx:scal ρ x=some (.bool p)) (hy:scal ρ y=some (.bool q)):Pure P w0 M0 o ρ ob (.v .pl (.sc (.bool (!(p == q))))) :=
  pure_bin ho hx hy rfl (by simp [go_sem]) (fun w=>by have:=run_neq_bool (P:=P) (w:=w) T p q hT;simpa [bne] using this)

theorem pure_sindex {q:IntKind} {i:Int} (ho:o.op=.index T x y) (hT:P.underlying T=some .string) (hx:scal ρ x=some (.string ⟨l.toArray⟩)) (hy:scal ρ y=some (.int q i)) (h:0≤i∧i<l.length):Pure P w0 M0 o ρ ob (.v .pl (.sc (.int .u8 (l.getD i.toNat 0).toNat))) :=
  pure_scal rfl fun w ev h'=>by
    have hsz:(⟨l.toArray⟩:ByteArray).size=l.length:=by simp [ByteArray.size]
    have hr:=run_index_string (P:=P) (w:=w) T ⟨l.toArray⟩ q i hT
    rw [dif_pos (by rw [hsz];exact h)] at hr
    have e1:(⟨l.toArray⟩:ByteArray)[i.toNat]'(by rw [hsz];omega)=l.getD i.toNat 0:=by
      rw [List.getD_eq_getElem?_getD,List.getElem?_eq_getElem (by omega)];rfl
    simp only [execOp,ho,h' x _ hx,h' y _ hy,Sem.run_bind,hr,Result.andThen_ok,Sem.run_pure,e1]
theorem Rep.part {w : World} {M : Nat → Prop} {a : Option Addr} {n cap : Nat} {i j : Nat} (hr : Rep w M (.slice a n cap) (.sl xs)) (hk : szOf P e = some k) (hxk : ∀ v ∈ xs, (AV.cells v).length = k) (hij : i ≤ j) (hj : j ≤ n) :
    Rep w M (sliced a i j cap k) (.sl ((xs.drop i).take (j-i))):=by
  cases hr with
  | sl a n cap xs k' cv hn hc hk' hb hl hr =>
    have hflat:∀ (q:Nat) d,(flat ((xs.drop i).take (j-i)))[q]?=some d→(flat xs)[i*k'+q]?=some d:=by
      intro q d hd
      have e1:xs=xs.take i++((xs.drop i).take (j-i)++(xs.drop i).drop (j-i)):=by rw [List.take_append_drop,List.take_append_drop]
      have hlen:(flat (xs.take i)).length=i*k':=by
        rw [flat_length (xs.take i) (fun v hv=>hk' v (List.mem_of_mem_take hv)),List.length_take,Nat.min_eq_left (by omega)]
      rw [e1,flat_append,flat_append,List.getElem?_append_right (by omega),hlen,Nat.add_sub_cancel_left,List.getElem?_append_left (List.getElem?_eq_some_iff.1 hd).1]
      exact hd
    unfold sliced
    refine .sl _ _ _ _ k' (fun q=>cv (i*k'+q)) (by simp;omega) (by omega) (fun v hv=>hk' v (List.mem_of_mem_drop (List.mem_of_mem_take hv))) (fun h0=>?_) (fun q d hd=>hl _ d (hflat q d hd)) (fun q d hd=>hr _ d (hflat q d hd))
    have h0':0<j-i:=h0
    have hn0:0<n:=by omega
    have hkk:k=k':=by
      cases xs with
      | nil =>
        have:n=0:=by simpa using hn.symm
        omega
      | cons v r=>rw [← hk' v List.mem_cons_self,hxk v List.mem_cons_self]
    subst hkk
    obtain ⟨bl,of,rfl,h1,h2,h3⟩:=hb hn0
    refine ⟨bl,of+i*k,?_,h1,h2,fun q hq=>?_⟩
    · have hne : ¬ cap = i := by
        have hji:0<j-i:=h0
        omega
      rw [if_neg hne];simp [Addr.add_lit]
    · have hle : i * k + (j - i) * k ≤ n * k := by rw [← Nat.add_mul]; exact Nat.mul_le_mul_right _ (by omega)
      have hlt:i*k+q<n*k:=by omega
      have:=h3 (i*k+q) hlt
      have e1:of+i*k+q=of+(i*k+q):=by omega
      rw [e1];exact this
theorem pure_slice_h {q':IntKind} {j:Int} (ho:o.op=.slice T x none (some z) none) (hT:P.underlying T=some (.slice e)) (hk:szOf P e=some k) (hx:viewAt ρ ob x=some (c,.sl xs)) (hz:scal ρ z=some (.int q' j)) (h:0≤j∧j≤xs.length) (hxk:∀ v∈xs,(AV.cells v).length=k) :
    Pure P w0 M0 o ρ ob (.v c (.sl (xs.take j.toNat))) :=
  pure_value fun E w ev hw hh=>by
    have hr:=viewAt_ok hw hh hx
    have hz':=scal_ok hh hz
    generalize hq:ev x=u at hr
    have hu:∃ a n cap,u=.slice a n cap∧xs.length=n∧n≤cap:=by
      cases hr with
      | sl a n cap _ k cv hn hc _ _ _ _=>exact ⟨a,n,cap,rfl,hn,hc⟩
    obtain ⟨a,n,cap,rfl,hn,hc⟩:=hu
    have hel:P.elem T=e:=by simp [Program.elem,hT]
    have hrun:(Instr.slice T (.slice a n cap) none (some (.int q' j)) none).run P w=.ok (sliced a 0 j.toNat cap k) w:=by
      have hj:0≤j∧j≤(cap:Int):=by omega
      simp [Instr.slice,run_underlying hT,Instr.sliceBounds,run_sliceBound,hj,run_size hk,sliced]
    have:=hr.part hk hxk (Nat.zero_le j.toNat) (by omega)
    simp only [List.drop_zero,Nat.sub_zero] at this
    refine ⟨_,w,?_,.refl _ _,this⟩
    simp only [execOp,ho,hq,hz',Option.map_some,Option.map_none,Sem.run_bind,run_sliceAt_slice (P:=P) (w:=w) T _ _ _ _ (by rw [hel];exact hT),hrun,Result.andThen_ok,Sem.run_pure]

def capsView (ρ : Operand → Option SV) (ob : List (Nat × Ob)) : List Operand → Option (Cls × List AV)
  | []=>some (.pl,[])
  | x :: r => match viewAt ρ ob x, capsView ρ ob r with
    | some (c,d),some (c',ds)=>some (c.max c',d :: ds)
    | _,_=>none
theorem capsView_ok {E : Env} {w : World} {ev : Operand → Value} (hw : WOk P w0 M0 E ob w) (h : ∀ x e, ρ x = some e → SVok P M0 w E ob (ev x) e) : ∀ (xs : List Operand) (c : Cls) (ds : List AV), capsView ρ ob xs = some (c, ds) →
    xs.length=ds.length∧∀ (j:Nat) d,ds[j]?=some d→Rep w (clsM M0 (owned E ob) c) ((xs.map ev).getD j undef) d
  | [], c, ds, hd => by
    simp only [capsView,Option.some.injEq,Prod.mk.injEq] at hd
    obtain ⟨rfl,rfl⟩:=hd
    exact ⟨rfl,fun j d hd=>by simp at hd⟩
  | x :: r, c, ds, hd => by
    unfold capsView at hd
    split at hd
    · rename_i c1 d1 c2 ds2 h1 h2
      simp only [Option.some.injEq,Prod.mk.injEq] at hd
      obtain ⟨rfl,rfl⟩:=hd
      have ih:=capsView_ok hw h r c2 ds2 h2
      refine ⟨by simp [ih.1],fun j d hd=>?_⟩
      cases j with
      | zero =>
        simp only [List.getElem?_cons_zero,Option.some.injEq] at hd
        subst hd
        exact (viewAt_ok hw h h1).weak (clsM_max1 c1 c2)
      | succ j=>exact (ih.2 j d (by simpa using hd)).weak (clsM_max2 c1 c2)
    · cases hd
theorem pure_func {f:FuncId} {caps:Array Operand} {ds:List AV} (ho:o.op=.makeFunc (.func f) #[] caps) (hc:capsView ρ ob caps.toList=some (c,ds)):Pure P w0 M0 o ρ ob (.v c (.clo f ds)) :=
  pure_value fun E w ev hw h=>by
    obtain ⟨g1,g2⟩:=capsView_ok hw h _ c ds hc
    refine ⟨.func (.func f) #[] (caps.toList.map ev).toArray,w,?_,.refl _ _,.clo f _ _ (by simpa using g1) g2⟩
    simp [execOp,ho,Instr.makeFunc]
    try (apply Array.ext';simp)
theorem pure_fieldv {f fo fk : Nat} {as : List AV} {a0 : AV} (ho : o.op = .field T x f) (hT : fldOf P T f = some (fo, fk + 1, false)) (hx : viewAt ρ ob x = some (c, .agg as)) (ha : as[fo]? = some a0) : Pure P w0 M0 o ρ ob (.v c a0) :=
  pure_value fun E w ev hw h=>by
    have hr:=viewAt_ok hw h hx
    generalize hq:ev x=u at hr
    cases hr with
    | agg vs _ hn hl hr =>
      have hlt:fo<vs.length:=by rw [hn];exact (List.getElem?_eq_some_iff.1 ha).1
      have:=hr fo a0 ha
      rw [List.getD_eq_getElem?_getD,List.getElem?_eq_getElem hlt] at this
      refine ⟨vs[fo],w,?_,.refl _ _,this⟩
      unfold fldOf at hT
      split at hT
      · rename_i fs hs
        cases hf:fs[f]? with
        | none=>rw [hf] at hT;cases hT
        | some fd =>
          rw [hf] at hT
          simp only [Option.bind_some,Option.bind_eq_some_iff,Option.map_eq_some_iff,Prod.mk.injEq] at hT
          obtain ⟨k1,hk1,g1,hg1,hT1,hT2,hT3⟩:=hT
          subst hT1;subst hT3
          simp [execOp,ho,hq,Instr.field,run_underlying hs,hf,part,run_isAggOf hg1,asAgg,hlt]
      · cases hT
theorem step_make {u:Value} {n:Int} {q q':IntKind} (ho:o.op=.makeSlice T x y) (hd:o.dst=some t) (hn:Nat.blt t s.n=true) (hnd:Nodup s.s=true) (hT:P.underlying T=some (.slice e)) (hel:elOk P e 1 b=true) (hz:zeroOf P e=some [u]) (hu:u.oneCell'=true)
    (hx:scal s.ev x=some (.int q n)) (hy:scal s.ev y=some (.int q' n)) (h0:0≤n) (hb:b*n.toNat≤281474976710656) (hm:n≤4611686018427387904) (hM0:∀ b,M0 b→b<w0.w.heap.size):Step P w0 M0 o s ((s.upd true t (.arr e (List.replicate n.toNat (.sc u)))).put t (.own t)):=by
  rintro a w Q ⟨E,hs⟩
  obtain ⟨i,zz,hi,hzz,hsz,hby,hzs,hk0,hck⟩:=elOk_spec hel
  have hzc:zz.cells.toList=[u]:=by
    unfold zeroOf at hz
    rw [hi] at hz
    simp only [Option.bind_some,hzz,Option.map_some,Option.some.injEq] at hz
    exact hz
  have hx':a.eval x=.int q n:=scal_ok (ρ:=s.ev) (x:=x) (ob:=s.o) (ev:=a.eval) (fun x e hx=>hs.ev hx) hx
  have hy':a.eval y=.int q' n:=scal_ok (ρ:=s.ev) (x:=y) (ob:=s.o) (ev:=a.eval) (fun x e hx=>hs.ev hx) hy
  obtain ⟨w',hrun,hown,hg⟩:=run_make_full (P:=P) w 0 T e i zz 1 hT hi hzz hsz q q' n.toNat (by rw [hby];exact hb) (by simp only [maxLen];omega) (Nat.zero_le _)
  rw [Int.toNat_of_nonneg h0] at hrun
  have hcells:(madeCells zz.cells (n.toNat*1)).toList=List.replicate n.toNat u:=by
    have hzc':zz.cells=#[u]:=by rw [← Array.toList_inj];simpa using hzc
    rw [hzc',Nat.mul_one]
    apply List.ext_getElem?
    intro j
    simp only [madeCells,Array.toList_map,List.getElem?_map,List.getElem?_replicate]
    rcases Nat.lt_or_ge j n.toNat with h|h
    · have hone : j % 1 = 0 := Nat.mod_one j
      simp [h,Nat.mod_one]
    · rw [if_neg (by omega)];simp;omega
  rw [hcells] at hown
  unfold Oper.wp
  have hexec:(execOp a.eval o).run P w=.ok (.value (.slice (some ⟨w.heap.size,0,none⟩) n.toNat n.toNat)) w':=by
    simp only [execOp,ho,hx',hy',Sem.run_bind,hrun,Result.andThen_ok,Sem.run_pure]
  rw [hexec]
  simp only [Oper.upon,hd]
  refine ⟨{ E with cur:=fun i=>if i=t then .slice (some ⟨w.heap.size,0,none⟩) n.toNat n.toNat else E.cur i },SimE.put ?_ (by simpa [St.upd] using hn) sv_own_new⟩
  refine hs.newArr hnd hM0 hg (fun _=>run_drawn _ _ _ _ hrun) (vals:=List.replicate n.toNat u) (by rw [hck,List.length_replicate];exact hown) (fun b hb=>?_) (fun v hv=>by rw [hck,List.eq_of_mem_replicate hv];rfl) (fun j d hd=>?_)
  · simp only [Value.ownBlock,Option.some.injEq] at hb;omega
  · have hfl : flat (List.replicate n.toNat (AV.sc u)) = List.replicate n.toNat (AV.sc u) := by
      generalize n.toNat=m
      induction m with
      | zero=>rfl
      | succ m ih=>simp only [List.replicate_succ,flat,List.flatMap_cons] at ih ⊢;rw [ih];rfl
    rw [hfl,List.getElem?_replicate] at hd
    split at hd
    · rename_i hj
      simp only [Option.some.injEq] at hd
      subst hd
      refine ⟨rfl,.inl ?_⟩
      rw [List.getD_eq_getElem?_getD,List.getElem?_replicate,if_pos hj]
      exact .sc u hu
    · cases hd
end
end Go.Am

namespace Go.Am
open Go.RowKit

theorem mget {α:Type} [Inhabited α] {f:α→AV} {l:List α} {i:Nat} (h:i<l.length):(l.map f)[i]?=some (f (l.getD i default)):=by
  rw [List.getElem?_map,List.getD_eq_getElem?_getD,List.getElem?_eq_getElem h];rfl
theorem one_len {k:Nat} {x:AV} (h:(AV.cells x).length=k):∀ y∈[x],(AV.cells y).length=k:=by
  intro y hy;simp at hy;subst hy;exact h
theorem map_len {α:Type} {f:α→AV} {l:List α} {k:Nat} (h:∀ z,(AV.cells (f z)).length=k):∀ y∈l.map f,(AV.cells y).length=k:=by
  intro y hy
  obtain ⟨z,_,rfl⟩:=List.mem_map.1 hy
  exact h z
theorem flat_leaf {α:Type} {f:α→AV} {l:List α} (h:∀ z,AV.cells (f z)=[f z]):flat (l.map f)=l.map f:=by
  induction l with
  | nil=>rfl
  | cons x r ih=>simp only [List.map_cons,flat,List.flatMap_cons] at ih ⊢;rw [ih,h];rfl
section
variable {P:Program} {w0:Fr} {M0:Nat→Prop}
theorem src_plm {α:Type} {f:α→AV} {l:List α} {s:St} {y:Operand} {k:Nat} (hy:viewAt s.ev s.o y=some (.pl,.sl (l.map f))) (hk:∀ z,(AV.cells (f z)).length=k):Src P w0 M0 s y k (l.map f):=src_pl hy (map_len hk)
theorem src_scm {α:Type} {f:α→AV} {l:List α} {s:St} {y:Operand} {c:Cls} (hy:viewAt s.ev s.o y=some (c,.sl (l.map f))) (hk:∀ z,∃ v,f z=.sc v):Src P w0 M0 s y 1 (l.map f) :=
  src_sc hy (map_len fun z=>by obtain ⟨v,h⟩:=hk z;rw [h];rfl) (fun d hd=>by
    rw [flat_leaf (fun z=>by obtain ⟨v,h⟩:=hk z;rw [h];rfl)] at hd
    obtain ⟨z,_,rfl⟩:=List.mem_map.1 hd
    exact hk z)

def Fn2 (P : Program) (f : FuncId) (n t u : Nat) (c : Code) : Prop := ∃ fn, P.funcs[f]? = some fn ∧ fn.body = some c ∧ fn.ntmps = n ∧ fn.results = #[.tmp t, .tmp u] ∧ (fn.name == "runtime.NumGoroutine") = false
theorem Fn2.callable {f n t u:Nat} {c:Code} (h:Fn2 P f n t u c):Callable P f:=by
  obtain ⟨fn,h1,h2,_,_,h5⟩:=h
  exact ⟨fn,h1,h5,by rw [h2];rfl⟩
def endQ2 (t u:Nat) (r r':AV):Exit→St→Prop
  | .normal,s|.ret,s=>(∃ q,(s.s.lookup t).bind (retOf s.o)=some q∧q.data=r)∧(∃ q,(s.s.lookup u).bind (retOf s.o)=some q∧q.data=r')
  | _,_=>False
theorem calls_of_code2 {f n t u : Nat} {c : Code} (hf : Fn2 P f n t u c) {ds : List AV} {r r' : AV} {cl : Cls} {w : World} (hM0 : ∀ b, M0 b → b < w.heap.size) (hn : ds.length ≤ n) (vs : List Value) (hv : vs.length = ds.length)
    (hr:∀ (j:Nat) d,ds[j]?=some d→Rep w (clsM M0 (fun _=>False) cl) (vs.getD j undef) d)
    (h:CodeOk P (Fr.all w) M0 c (St.enter n cl ds) (endQ2 t u r r')) :
    Calls P f vs.toArray w fun e w'=>∃ v,e=.returned v∧Below w.heap.size w w'∧RVok P w' M0 (fun b=>b<w.heap.size) v (.p (.tup [r,r'])):=by
  obtain ⟨fn,h1,h2,h3,h4,h5⟩:=hf
  have hE:SimE P (Fr.all w) M0 ⟨fun _=>undef,fun _=>0,fun _ _=>undef⟩ (St.enter n cl ds) { tmps:=vs.toArray++Array.replicate (fn.ntmps-vs.toArray.size) undef,defers:=[] } w:=by
    rw [enter_eq]
    refine ⟨by simp [St.enterS,h3];omega,rfl,fun t d ht=>?_,wok_nil⟩
    obtain ⟨_,he⟩:=lookup_enterS _ 0 t d ht
    rw [Nat.sub_zero,List.getElem?_map,Option.map_eq_some_iff] at he
    obtain ⟨e,he,rfl⟩:=he
    have hlt:t<ds.length:=(List.getElem?_eq_some_iff.1 he).1
    refine ⟨by simp [St.enterS];omega,?_⟩
    have:=hr t e he
    simp only [SVok,St.enterS,owned_nil]
    have hget:(vs.toArray++Array.replicate (fn.ntmps-vs.toArray.size) undef).getD t undef=vs.getD t undef:=by
      rw [Array.getD_eq_getD_getElem?,Array.getElem?_append_left (by simp;omega),List.getD_eq_getElem?_getD];simp
    rw [hget];exact this
  refine calls_of_wp h1 h2 (wp_mono (h _ _ ⟨_,hE⟩) fun e a' w' ⟨s',hq,E,hs⟩=>?_)
  have fin:((∃ q,(s'.s.lookup t).bind (retOf s'.o)=some q∧q.data=r)∧(∃ q,(s'.s.lookup u).bind (retOf s'.o)=some q∧q.data=r'))→a'.defers=[]∧∃ v,(results fn a'.tmps).run P w'=.ok v w'∧∃ v_1,Ending.returned v=Ending.returned v_1∧Below w.heap.size w w'∧RVok P w' M0 (fun b=>b<w.heap.size) v_1 (.p (.tup [r,r'])):=by
    rintro ⟨⟨q1,hq1,hd1⟩,⟨q2,hq2,hd2⟩⟩
    have one:∀ x q,(s'.s.lookup x).bind (retOf s'.o)=some q→Rep w' M0 (a'.tmps.getD x undef) q.data:=by
      intro x q hx
      cases hl:s'.s.lookup x with
      | none=>rw [hl] at hx;cases hx
      | some sv =>
        rw [hl] at hx
        exact (retOf_ok hs.wok (hs.slots x sv hl).2 hx).rep hM0
    refine ⟨hs.defers,.tuple #[a'.tmps.getD t undef,a'.tmps.getD u undef],by simp [results,h4],_,rfl,hs.wok.below.below,?_⟩
    have r1:=one t q1 hq1
    have r2:=one u q2 hq2
    rw [hd1] at r1;rw [hd2] at r2
    exact .tup [a'.tmps.getD t undef,a'.tmps.getD u undef] [r,r'] rfl (fun j d hd=>by
      match j,hd with
      | 0,hd=>simp at hd;subst hd;exact r1
      | 1,hd=>simp at hd;subst hd;exact r2
      | j+2,hd=>simp at hd)
  cases e with
  | normal=>exact fin hq
  | ret=>exact fin hq
  | exit _=>exact hq.elim
  | goto _=>exact hq.elim
  | panic _=>exact hq.elim
  | outgrown=>exact hq.elim
theorem callF_of_code2 {f n t u:Nat} {c:Code} (hf:Fn2 P f n t u c) {ds:List AV} {r r':AV} (hn:ds.length≤n)
    (h:∀ (w0:Fr) (M0:Nat→Prop),(∀ b,M0 b→b<w0.w.heap.size)→CodeOk P w0 M0 c (St.enter n .mx ds) (endQ2 t u r r')):CallF P f ds (.p (.tup [r,r'])) :=
  ⟨hf.callable,fun w vs hv hr=>calls_of_code2 (cl:=.mx) hf (fun b hb=>hb) hn vs hv (fun j d hd=>hr j d hd) (h (Fr.all w) (fun b=>b<w.heap.size) (fun b hb=>hb))⟩
theorem end2_ret {t u:Nat} {r r':AV} {s:St} {q q':RV} (h:(s.s.lookup t).bind (retOf s.o)=some q) (h':(s.s.lookup u).bind (retOf s.o)=some q') (e:q.data=r∧q'.data=r'):endQ2 t u r r' .ret s:=⟨⟨q,h,e.1⟩,⟨q',h',e.2⟩⟩
theorem pure_callN {o : Oper} {ρ : Operand → Option SV} {ob : List (Nat × Ob)} {cx : Operand} {args : Array Operand} {ats : Array TypeId} {c c' : Cls} {f : FuncId} {caps ds : List AV} {r : RV}
    (ho:o.op=.call { callee:=.value cx,args:=args,argTypes:=ats }) (hc:ρ cx=some (.v c' (.clo f caps))) (ha:capsView ρ ob args.toList=some (c,ds)) (hcap:caps=[]) (h:CallN P f ds r)
    (hM0:∀ b,M0 b→b<w0.w.heap.size):Pure P w0 M0 o ρ ob (.v c r.data):=by
  subst hcap
  intro E w ev hw hx
  have hcv:=hx cx _ hc
  simp only [SVok] at hcv
  generalize hq:ev cx=q at hcv
  cases hcv with
  | clo _ vs _ hn hr =>
    obtain ⟨g1,g2⟩:=capsView_ok hw hx _ c ds ha
    have hvs:vs=[]:=List.eq_nil_of_length_eq_zero (by simpa using hn)
    subst hvs
    unfold Yield
    rw [run_call ho hq h.1]
    refine ⟨rfl,?_⟩
    have hMlt:∀ b,clsM M0 (owned E ob) c b→b<w.heap.size:=by
      intro b hb
      cases c with
      | pl =>
        rcases hb with hb|hb
        · have:=hM0 b hb;have:=hw.below.size;omega
        · exact (hw.owned_range hb).2
      | mx=>exact (hw.owned_range hb).2
      | vw=>exact hb.elim
    have hall:=h.2 w (clsM M0 (owned E ob) c) (args.toList.map ev) hMlt (by simpa using g1) g2
    have e1:(args.toList.map ev).toArray=args.map ev++#[]:=by apply Array.ext' ;simp
    rw [e1] at hall
    exact hall.mono fun e w' ⟨v,he,hb,hrv⟩=>⟨v,he,hb.to,hrv.rep hMlt⟩
theorem pure_remn {o:Oper} {ρ:Operand→Option SV} {ob:List (Nat×Ob)} {x y:Operand} {T T':TypeId} {k:IntKind} {a b:Int} (ho:o.op=.binOp .rem T x y T') (hx:scal ρ x=some (.int k a)) (hy:scal ρ y=some (.int k b)) (h:0≤a∧0<b):Pure P w0 M0 o ρ ob (.v .pl (.sc (.int k (a % b)))):=by
  have:=pure_rem (P:=P) (w0:=w0) (M0:=M0) (ob:=ob) ho hx hy (by omega)
  rwa [Int.tmod_eq_emod_of_nonneg h.1] at this
theorem pure_quon {o:Oper} {ρ:Operand→Option SV} {ob:List (Nat×Ob)} {x y:Operand} {T T':TypeId} {a b:Int} (ho:o.op=.binOp .quo T x y T') (hx:scal ρ x=some (.int .i64 a)) (hy:scal ρ y=some (.int .i64 b)) (h:0≤a∧0<b∧a≤9223372036854775807):Pure P w0 M0 o ρ ob (.v .pl (int (a / b))):=by
  have:=pure_quo (P:=P) (w0:=w0) (M0:=M0) (ob:=ob) ho hx hy (by omega)
  have h1:0≤a / b:=Int.ediv_nonneg h.1 (by omega)
  have h2:a / b≤a:=Int.ediv_le_self _ h.1
  rwa [Int.tdiv_eq_ediv_of_nonneg h.1,wrap64 (by omega) (by omega)] at this
theorem pure_lenm {α:Type} {f:α→AV} {l:List α} {o:Oper} {ρ:Operand→Option SV} {ob:List (Nat×Ob)} {x:Operand} {T e:TypeId} {c:Cls} (ho:o.op=.call { callee:=.builtin .len,args:=#[x],argTypes:=#[T] }) (hT:P.underlying T=some (.slice e)) (hx:viewAt ρ ob x=some (c,.sl (l.map f))) :
    Pure P w0 M0 o ρ ob (.v .pl (int l.length)):=by
  have:=pure_len (P:=P) (w0:=w0) (M0:=M0) ho hT hx
  rwa [List.length_map] at this
def cutQ (P:Program) (w0:Fr) (M0:Nat→Prop) (R:St→Prop) (Q:Exit→St→Prop):Exit→St→Prop
  | .normal,s=>∃ s',Imp P w0 M0 s s'∧R s'
  | e,s=>Q e s
theorem code_cut {x y:Code} {s:St} {Q:Exit→St→Prop} (R:St→Prop) (h:CodeOk P w0 M0 x s (cutQ P w0 M0 R Q)) (h':∀ s,R s→CodeOk P w0 M0 y s Q):CodeOk P w0 M0 (.seq x y) s Q :=
  code_seq (h.mono fun e s' hq=>by
    cases e<;>simp only [cutQ,seqQ] at hq ⊢<;>first
      | exact hq
      | (obtain ⟨s2, hi, hR⟩ := hq
         exact CodeOk.imp hi (h' s2 hR)))
end
end Go.Am

