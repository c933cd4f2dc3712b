/-
  Stores into what the call owns;make;conversions,strings,parts of slices,closures.
-/
import Derived.Test.YtgdehkimfmfofaaGreatJ5
set_option linter.unusedVariables false
set_option linter.unusedSectionVars false
set_option linter.unusedSimpArgs false
namespace Go.Am
open Go.RowKit

def boxCells:SV→List SV
  | .v c (.agg cs)=>cs.map (.v c)
  | d=>[d]
def SV.oneV:SV→Bool
  | .v _ (.tup _)=>false
  | _=>true
def spl {α:Type} (l:List α) (off:Nat) (m:List α):List α:=l.take off++m++l.drop (off+m.length)
theorem spl_length {α:Type} {l m:List α} {off:Nat} (h:off+m.length≤l.length):(spl l off m).length=l.length:=by simp [spl];omega
theorem spl_get {α:Type} {l m:List α} {off:Nat} (h:off+m.length≤l.length) (j:Nat):(spl l off m)[j]?=if off≤j∧j<off+m.length then m[j-off]? else l[j]?:=by
  unfold spl
  rw [List.append_assoc]
  have ht:(l.take off).length=off:=by simp;omega
  rcases Nat.lt_or_ge j off with h1|h1
  · rw [List.getElem?_append_left (by omega),List.getElem?_take,if_pos h1,if_neg (by omega)]
  · rw [List.getElem?_append_right (by omega), ht]
    rcases Nat.lt_or_ge (j-off) m.length with h2|h2
    · rw [List.getElem?_append_left h2,if_pos (by omega)]
    · rw [List.getElem?_append_right h2, List.getElem?_drop, if_neg (by omega)]
      congr 1;omega

section
variable {P:Program} {w0:Fr} {M0:Nat→Prop}
variable {o:Oper} {ρ:Operand→Option SV} {ob:List (Nat×Ob)} {d:SV} {x y:Operand} {T T' e:TypeId} {k b:Nat} {c:Cls} {id off:Nat} {cs:List SV} {s:St} {t:Nat}

theorem boxCells_ok {w:World} {E:Env} {ob:List (Nat×Ob)} {v:Value} {d:SV} (h:SVok P M0 w E ob v d) (hd:d≠.dead) (h1:d.oneV=true) (ho:(∃ c a,d=.v c a)∨v.oneCell'=true) :
    v.cells.size=(boxCells d).length∧∀ (j:Nat) sv,(boxCells d)[j]?=some sv→SV.leaf sv=true∧(v.cells.getD j undef).oneCell'=true∧SVok P M0 w E ob (v.cells.getD j undef) sv:=by
  have single:∀ (u:Value),u.oneCell'=true→u.cells=#[u]:=by intro u hu;cases u<;>simp_all [Value.cells,Value.oneCell']
  have triv:(∀ sv:SV,boxCells d=[d]→SV.leaf d=true→v.oneCell'=true→v.cells.size=(boxCells d).length∧∀ (j:Nat) sv,(boxCells d)[j]?=some sv→SV.leaf sv=true∧(v.cells.getD j undef).oneCell'=true∧SVok P M0 w E ob (v.cells.getD j undef) sv):=by
    intro _ hb hl hv
    rw [hb,single v hv]
    refine ⟨rfl,fun j sv hj=>?_⟩
    cases j with
    | zero=>simp at hj;subst hj;exact ⟨hl,hv,h⟩
    | succ j=>simp at hj
  cases d with
  | v c d =>
    have hnt:∀ vs,d≠.tup vs:=fun vs he=>by subst he;cases h1
    have hr:Rep w (clsM M0 (owned E ob) c) v d:=h
    obtain ⟨g1,g2,g3⟩:=hr.cells hnt
    cases d with
    | agg cs =>
      refine ⟨by simp [g1,boxCells,AV.cells],fun j sv hj=>?_⟩
      simp only [boxCells,List.getElem?_map,Option.map_eq_some_iff] at hj
      obtain ⟨a,ha,rfl⟩:=hj
      have h2:=g2 j a ha
      have h3:=g3 j a ha
      exact ⟨h2,h3.one h2,h3⟩
    | sc u=>exact triv .dead rfl rfl (hr.one rfl)
    | sl xs=>exact triv .dead rfl rfl (hr.one rfl)
    | tup xs=>exact absurd rfl (hnt xs)
    | pc a b=>exact triv .dead rfl rfl (hr.one rfl)
    | clo a b=>exact triv .dead rfl rfl (hr.one rfl)
    | mp a b=>exact triv .dead rfl rfl (hr.one rfl)
  | own i=>exact triv .dead rfl rfl (by rcases ho with ⟨c,a,h⟩|h;cases h;exact h)
  | pel i j q=>exact triv .dead rfl rfl (by rcases ho with ⟨c,a,h⟩|h;cases h;exact h)
  | pbox i q=>exact triv .dead rfl rfl (by rcases ho with ⟨c,a,h⟩|h;cases h;exact h)
  | omap i=>exact triv .dead rfl rfl (by rcases ho with ⟨c,a,h⟩|h;cases h;exact h)
  | vsl i j q=>exact triv .dead rfl rfl (by rcases ho with ⟨c,a,h⟩|h;cases h;exact h)
  | fn i j=>exact triv .dead rfl rfl (by rcases ho with ⟨c,a,h⟩|h;cases h;exact h)
  | hid i j=>exact triv .dead rfl rfl (by rcases ho with ⟨c,a,h⟩|h;cases h;exact h)
  | nst i=>exact triv .dead rfl rfl (by rcases ho with ⟨c,a,h⟩|h;cases h;exact h)
  | nel i j=>exact triv .dead rfl rfl (by rcases ho with ⟨c,a,h⟩|h;cases h;exact h)
  | dead=>exact absurd rfl hd

theorem SimE.newBox {E:Env} {a:Act} {w:World} {cells:Array Value} (h:SimE P w0 M0 E s a w) (hnd:Nodup s.s=true) (hM0:∀ b,M0 b→b<w0.w.heap.size) (hpt:t<1000000) (hl:cells.size=cs.length)
    (hc:∀ (j:Nat) sv,cs[j]?=some sv→SV.leaf sv=true∧(cells.getD j undef).oneCell'=true∧SVok P M0 w E s.o (cells.getD j undef) sv∧sv.stays true t=true) :
    SimE P w0 M0 { E with blk:=fun i=>if i=t then w.heap.size else E.blk i } (s.upd true t (.box e cs)) a (w.alloc (.cells cells e)):=by
  refine h.upd true (fun h=>by cases h) hnd hM0 (fun i hi=>⟨rfl,by simp [hi]⟩) (.inl (pin_ne hpt)) none (World.grownBy_alloc w _ none) (fun _=>Nat.le_refl _) (fun g hg=>by cases hg) (fun b hb=>.inr ?_) (fun rep sv=>?_)
  · simp only [ownB,if_true] at hb;omega
  · refine ⟨cells.toList, by simp only [if_true]; simpa using heap_alloc_new w (.cells cells e), by simp only [if_true]; exact h.wok.new_free hM0 (Nat.le_refl _), by simpa using hl, fun j d hd => ?_⟩
    obtain ⟨h1,h2,h3,h4⟩:=hc j d hd
    have e1:cells.toList.getD j undef=cells.getD j undef:=by rw [List.getD_eq_getElem?_getD,Array.getD_eq_getD_getElem?,Array.getElem?_toList]
    rw [e1]
    exact ⟨h1,h2,sv _ _ h3 h4⟩
theorem sv_box_new {w:World} {E:Env} {o:List (Nat×Ob)} {n:Nat} {cs:List SV}:SVok P M0 w { E with blk:=fun i=>if i=t then n else E.blk i } (ins t (.box e cs) o) (.pointer (some ⟨n,0,none⟩)) (.pbox t 0):=by
  intro e' cs' _
  simp

theorem step_alloc {zs:List Value} (ho:o.op=.alloc T) (hd:o.dst=some t) (hn:Nat.blt t s.n=true) (hpt:Nat.blt t 1000000=true) (hnd:Nodup s.s=true) (hz:zeroOf P T=some zs) (hzs:zs.all Value.oneCell'=true) (hM0:∀ b,M0 b→b<w0.w.heap.size) :
    Step P w0 M0 o s ((s.upd true t (.box T (zs.map fun z=>.v .pl (.sc z)))).put t (.pbox t 0)):=by
  rintro a w Q ⟨E,hs⟩
  unfold zeroOf at hz
  cases hi:P.info? T with
  | none=>rw [hi] at hz;cases hz
  | some it =>
    rw [hi] at hz
    simp only [Option.bind_some,Option.map_eq_some_iff] at hz
    obtain ⟨z,hz1,hz2⟩:=hz
    unfold Oper.wp
    have hexec:(execOp a.eval o).run P w=.ok (.value (.pointer (some ⟨w.heap.size,0,none⟩))) (w.alloc (.cells z.cells T)):=by
      simp [execOp,ho,Instr.alloc,zeroValue,typeInfo,hi,hz1,newVar,newRow]
    rw [hexec]
    simp only [Oper.upon,hd]
    refine ⟨{ E with blk:=fun i=>if i=t then w.heap.size else E.blk i },SimE.put ?_ (by simpa [St.upd] using hn) sv_box_new⟩
    refine hs.newBox hnd hM0 (Nat.lt_of_lt_of_le (Nat.lt_of_succ_le (Nat.le_of_ble_eq_true hpt)) (Nat.le_refl _)) (by rw [← hz2];simp) (fun j sv hj=>?_)
    rw [List.getElem?_map,Option.map_eq_some_iff] at hj
    obtain ⟨u,hu,rfl⟩:=hj
    have h1:u.oneCell'=true:=by rw [List.all_eq_true] at hzs;exact hzs u (List.mem_of_getElem? hu)
    have h2:z.cells.getD j undef=u:=by rw [Array.getD_eq_getD_getElem?,← Array.getElem?_toList,hz2,hu];rfl
    rw [h2]
    exact ⟨rfl,h1,.sc u h1,rfl⟩
theorem step_box (ho:o.op=.box T x) (hd:o.dst=some t) (hn:Nat.blt t s.n=true) (hpt:Nat.blt t 1000000=true) (hnd:Nodup s.s=true) {a0:AV} (hx:s.ev x=some (.v c a0)) (hnt:notTup a0=true) (hc:c≠.vw) (hM0:∀ b,M0 b→b<w0.w.heap.size) :
    Step P w0 M0 o s ((s.upd true t (.box T (boxCells (.v c a0)))).put t (.pbox t 0)):=by
  rintro a w Q ⟨E,hs⟩
  have hv:=hs.ev hx
  obtain ⟨g1,g2⟩:=boxCells_ok hv (by simp) (by cases a0<;>simp_all [SV.oneV,notTup]) (.inl ⟨c,a0,rfl⟩)
  unfold Oper.wp
  have hexec:(execOp a.eval o).run P w=.ok (.value (.pointer (some ⟨w.heap.size,0,none⟩))) (w.alloc (.cells (a.eval x).cells T)):=by
    simp [execOp,ho,Instr.box,newVar,newRow]
  rw [hexec]
  simp only [Oper.upon,hd]
  refine ⟨{ E with blk:=fun i=>if i=t then w.heap.size else E.blk i },SimE.put ?_ (by simpa [St.upd] using hn) sv_box_new⟩
  refine hs.newBox hnd hM0 (Nat.lt_of_lt_of_le (Nat.lt_of_succ_le (Nat.le_of_ble_eq_true hpt)) (Nat.le_refl _)) g1 (fun j sv hj=>?_)
  obtain ⟨h1,h2,h3⟩:=g2 j sv hj
  refine ⟨h1,h2,h3,?_⟩
  have:∃ d',sv=.v c d':=by
    cases a0<;>simp only [boxCells] at hj
    case agg cs=>rw [List.getElem?_map,Option.map_eq_some_iff] at hj;obtain ⟨u,_,rfl⟩:=hj;exact ⟨u,rfl⟩
    all_goals (cases j<;>simp at hj;subst hj;exact ⟨_,rfl⟩)
  obtain ⟨d',rfl⟩:=this
  cases c<;>first|rfl|exact absurd rfl hc
theorem pure_box {a0 : AV} (ho : o.op = .box T x) (hx : viewAt ρ ob x = some (c, a0)) (hnt : notTup a0 = true) (hM0 : ∀ b, M0 b → b < w0.w.heap.size) : Pure P w0 M0 o ρ ob (.v c (.pc a0.cells 0)) :=
  pure_value fun E w ev hw h=>by
    have hr:=viewAt_ok hw h hx
    obtain ⟨g1,g2,g3⟩:=hr.cells (fun vs he=>by subst he;cases hnt)
    have hb:BelowD w0.dr w.heap.size w (w.alloc (.cells (ev x).cells T)):=(Below.refl _ _).alloc (Nat.le_refl _) _
    refine ⟨.pointer (some ⟨w.heap.size,0+0,none⟩),w.alloc (.cells (ev x).cells T),by simp [execOp,ho,Instr.box,newVar,newRow],hb,
      .pc _ 0 0 _ (fun j=>(ev x).cells.getD j undef) (fun hM=>?_) (by simp) (fun j hj=>?_) g2 (fun j d hd=>(g3 j d hd).under hb)⟩
    · cases c with
      | pl =>
        rcases hM with hM|hM
        · have:=hM0 _ hM;have:=hw.below.size;omega
        · have:=(hw.owned_range hM).2;omega
      | mx=>have:=(hw.owned_range hM).2;omega
      | vw=>exact hM
    · rw [cell_of_row _ w.heap.size (0+j) _ T (0,0) (heap_alloc_new w _),Nat.zero_add,Array.getD_eq_getD_getElem?,Array.getElem?_eq_getElem (by omega)];rfl

theorem fldOf_run {f fo fk:Nat} {fg:Bool} (hT:fldOf P T f=some (fo,fk+1,fg)) (w:World) (g p:Nat):(Instr.fieldAt T (.pointer (some ⟨g,p,none⟩)) f).run P w=.ok (.pointer (some ⟨g,p+fo,none⟩)) w:=by
  unfold fldOf at hT
  split at hT
  · rename_i fs hs
    cases hf:fs[f]? with
    | none=>rw [hf] at hT;cases hT
    | some fd =>
      rw [hf] at hT
      simp only [Option.bind_some,Option.bind_eq_some_iff,Option.map_eq_some_iff,Prod.mk.injEq] at hT
      obtain ⟨k1,hk1,g1,hg1,hT1,hT2,_⟩:=hT
      subst hT2
      simp [Instr.fieldAt,run_underlying hs,hf,Instr.sureAddr,fieldPlace,run_size hk1,Addr.add_lit,hT1]
  · cases hT
theorem pure_field_box {f fo fk:Nat} {fg:Bool} (ho:o.op=.fieldAddr T x f) (hT:fldOf P T f=some (fo,fk+1,fg)) (hx:ρ x=some (.pbox id off)) (hl:ob.lookup id=some (.box e cs)):Pure P w0 M0 o ρ ob (.pbox id (off+fo)) :=
  pure_value fun E w ev hw h=>by
    have hr:=h x _ hx e cs hl
    exact ⟨_,w,by simp only [execOp,ho,hr,Sem.run_bind,fldOf_run hT,Result.andThen_ok,Sem.run_pure],.refl _ _,fun e' cs' h'=>rfl⟩
theorem pure_load_box {sv:SV} (ho:o.op=.load T x) (hT:isAggOf P T=some false) (hx:ρ x=some (.pbox id off)) (hl:ob.lookup id=some (.box e cs)) (he:cs[off]?=some sv):Pure P w0 M0 o ρ ob sv :=
  pure_value fun E w ev hw h=>by
    have hr:=h x _ hx e cs hl
    obtain ⟨vals,h1,h2,h3,h4⟩:=hw.objs id _ hl
    refine ⟨vals.getD off undef,w,?_,.refl _ _,(h4 off sv he).2.2⟩
    have hlt:off<vals.length:=by rw [h3];exact (List.getElem?_eq_some_iff.1 he).1
    have hc:w.cell? ⟨E.blk id,off,none⟩=some (vals.getD off undef):=by
      rw [cell_of_row w _ off _ e (0,0) h1]
      simp [List.getD_eq_getElem?_getD,List.getElem?_eq_getElem hlt]
    simp [execOp,ho,hr,Instr.loadAt,Instr.sureAddr,loadVar,run_isAggOf hT,hc]
def cellsView (ob : List (Nat × Ob)) : List SV → Option (Cls × List AV)
  | []=>some (.pl,[])
  | d :: r => match view ob d, cellsView ob r with
    | some (c,a),some (c',as)=>bif a.leaf then some (c.max c',a :: as) else none
    | _,_=>none
theorem cellsView_ok {E : Env} {w : World} (hw : WOk P w0 M0 E ob w) : ∀ (l : List SV) (vs : List Value) (c : Cls) (as : List AV), vs.length = l.length → (∀ (j : Nat) d, l[j]? = some d → SVok P M0 w E ob (vs.getD j undef) d) → cellsView ob l = some (c, as) →
    l.length=as.length∧∀ (j:Nat) a,as[j]?=some a→AV.leaf a=true∧Rep w (clsM M0 (owned E ob) c) (vs.getD j undef) a
  | [], vs, c, as, _, _, hv => by
    simp only [cellsView,Option.some.injEq,Prod.mk.injEq] at hv
    obtain ⟨rfl,rfl⟩:=hv
    exact ⟨rfl,fun j a h=>by simp at h⟩
  | d :: r, vs, c, as, hl, h, hv => by
    cases vs with
    | nil=>simp at hl
    | cons v vs =>
      unfold cellsView at hv
      split at hv
      · rename_i c1 a1 c2 as2 h1 h2
        cases hlf:a1.leaf with
        | false=>rw [hlf] at hv;cases hv
        | true =>
          rw [hlf] at hv
          simp only [cond_true,Option.some.injEq,Prod.mk.injEq] at hv
          obtain ⟨rfl,rfl⟩:=hv
          obtain ⟨g1,g2⟩:=cellsView_ok hw r vs c2 as2 (by simpa using hl) (fun j d hd=>by simpa using h (j+1) d (by simpa using hd)) h2
          refine ⟨by simp [g1],fun j a ha=>?_⟩
          cases j with
          | zero =>
            simp only [List.getElem?_cons_zero,Option.some.injEq] at ha
            subst ha
            exact ⟨hlf,(view_ok hw (by simpa using h 0 d rfl) h1).weak (clsM_max1 c1 c2)⟩
          | succ j =>
            have:=g2 j a (by simpa using ha)
            exact ⟨this.1,by simpa using this.2.weak (clsM_max2 c1 c2)⟩
      · cases hv
theorem pure_load_box_agg {as : List AV} (ho : o.op = .load T x) (hT : isAggOf P T = some true) (hk : szOf P T = some k) (hx : ρ x = some (.pbox id off)) (hl : ob.lookup id = some (.box e cs)) (hle : Nat.ble (off + k) cs.length = true) (hv : cellsView ob ((cs.drop off).take k) = some (c, as)) :
    Pure P w0 M0 o ρ ob (.v c (.agg as)) :=
  pure_value fun E w ev hw h=>by
    have hr:=h x _ hx e cs hl
    have hle':=Nat.le_of_ble_eq_true hle
    obtain ⟨vals,h1,h2,h3,h4⟩:=hw.objs id _ hl
    have hvl:((vals.drop off).take k).length=((cs.drop off).take k).length:=by simp;omega
    obtain ⟨g1,g2⟩:=cellsView_ok hw ((cs.drop off).take k) ((vals.drop off).take k) c as hvl (fun j d hd=>by
      rw [List.getElem?_take] at hd
      split at hd
      · rename_i hj
        rw [List.getElem?_drop] at hd
        have:=(h4 _ d hd).2.2
        rw [List.getD_eq_getElem?_getD] at this ⊢
        rwa [List.getElem?_take,if_pos hj,List.getElem?_drop]
      · cases hd) hv
    have hcell:=run_loadCells (P:=P) w ⟨E.blk id,off,none⟩ k (fun j=>vals.getD (off+j) undef) (fun j hj=>by
      rw [Addr.add_lit,cell_of_row w _ (off+j) _ e (0,0) h1]
      have:off+j<vals.length:=by omega
      simp [List.getD_eq_getElem?_getD,List.getElem?_eq_getElem this])
    have hkl:((vals.drop off).take k).length=k:=by simp;omega
    refine ⟨.agg ((vals.drop off).take k).toArray,w,?_,.refl _ _,.agg _ _ (by rw [hvl,g1]) (fun j d hd=>(g2 j d hd).1) (fun j d hd=>(g2 j d hd).2)⟩
    have e1:(List.range k).map (fun j=>vals.getD (off+j) undef)=(vals.drop off).take k:=by
      apply List.ext_getElem?
      intro j
      simp only [List.getElem?_map,List.getElem?_take,List.getElem?_drop]
      rcases Nat.lt_or_ge j k with hj|hj
      · rw [if_pos hj]
        have:off+j<vals.length:=by omega
        simp [hj,List.getD_eq_getElem?_getD,List.getElem?_eq_getElem this]
      · rw [if_neg (by omega)];simp;omega
    simp only [execOp,ho,hr,Instr.loadAt,Instr.sureAddr,loadVar,Sem.run_bind,run_isAggOf hT,run_size hk,Result.andThen_ok,Sem.run_pure,if_true,hcell,e1]
end
end Go.Am

namespace Go.Am
open Go.RowKit

def keepC (id:Nat) (cs:List SV):List SV:=cs.map fun d=>if d.stays false id then d else .dead
def reCell (el:AV) (cs:List AV):AV:=match el with
  | .agg _=>.agg cs
  | _=>cs.headD el
theorem reCell_cells {el:AV} {cs:List AV} (h:cs.length=el.cells.length) (hl:∀ d∈cs,AV.leaf d=true):(reCell el cs).cells=cs:=by
  have one:el.cells.length=1→(∀ c,el≠.agg c)→(reCell el cs).cells=cs:=by
    intro h1 hna
    match cs,h,hl with
    | [d], _, hl =>
      have hd:=hl d (by simp)
      have:reCell el [d]=d:=by cases el<;>first|rfl|exact absurd rfl (hna _)
      rw [this]
      cases d<;>simp_all [AV.cells,AV.leaf]
    | [],h,_=>simp at h;omega
    | _ :: _ :: _,h,_=>simp at h;omega
  cases el with
  | agg c=>rfl
  | sc v=>exact one rfl (by simp)
  | sl v=>exact one rfl (by simp)
  | tup v=>exact one rfl (by simp)
  | pc v w=>exact one rfl (by simp)
  | clo v w=>exact one rfl (by simp)
  | mp v w=>exact one rfl (by simp)
theorem flat_set {k off:Nat} {xs:List AV} {i:Nat} {el el':AV} {m:List AV} (hk:∀ x∈xs,(AV.cells x).length=k) (hi:xs[i]?=some el) (hm:off+m.length≤k) (he:el'.cells=spl el.cells off m) :
    flat (xs.set i el')=spl (flat xs) (i*k+off) m:=by
  induction xs generalizing i with
  | nil=>simp at hi
  | cons x r ih =>
    have hx:=hk x List.mem_cons_self
    have hr:∀ y∈r,(AV.cells y).length=k:=fun y hy=>hk y (List.mem_cons_of_mem _ hy)
    cases i with
    | zero =>
      simp only [List.getElem?_cons_zero,Option.some.injEq] at hi
      subst hi
      simp only [List.set_cons_zero,flat,List.flatMap_cons,Nat.zero_mul,Nat.zero_add,he,spl]
      rw [List.take_append_of_le_length (by omega),List.drop_append_of_le_length (by omega)]
      simp
    | succ i =>
      have ih':=ih hr (by simpa using hi)
      simp only [flat] at ih'
      simp only [List.set_cons_succ,flat,List.flatMap_cons,ih',spl]
      have e1:(i+1)*k+off=x.cells.length+(i*k+off):=by rw [hx,Nat.add_mul];omega
      have e2:(i+1)*k+off+m.length=x.cells.length+(i*k+off+m.length):=by omega
      rw [e2,e1,List.take_length_add_append,List.drop_length_add_append]
      simp only [List.append_assoc]

section
variable {P:Program} {w0:Fr} {M0:Nat→Prop}
variable {o:Oper} {ρ:Operand→Option SV} {ob:List (Nat×Ob)} {d:SV} {x y:Operand} {T T' e:TypeId} {k b:Nat} {c:Cls} {id off:Nat} {cs:List SV} {s:St} {t:Nat} {xs:List AV}

theorem run_storeVar {w:World} {v:Value} {g p:Nat} {cur:Array Value} (hk:szOf P T=some k) (hv:v.cells.size=k) (hg:w.heap[g]?=some (.cells cur e (0,0))) (hl:p+k≤cur.size) (h1:∀ u∈v.cells.toList,u.oneCell'=true) :
    (storeVar T ⟨g,p,none⟩ v).run P w=.ok () (w.setRow g (spl cur.toList p v.cells.toList).toArray):=by
  have:=run_storeCells_at P g p e v.cells.toList 0 cur w hg (by simp;omega) h1
  simp only [Nat.add_zero] at this
  simp [storeVar,run_size hk,hv,this,spl]
theorem setRow_grown {w:World} {g:Nat} {cs:Array Value}:w.grownBy (w.setRow g cs) (some g):=⟨rfl,rfl,rfl,by simp [World.setRow],fun k _ hk=>setRow_other w g k _ (fun he=>hk (by rw [he]))⟩

theorem step_store_box {a0 : AV} (ho : o.op = .store T x y) (hd : o.dst = none) (hnd : Nodup s.s = true) (hk : szOf P T = some k) (hx : s.ev x = some (.pbox id off)) (hl : s.o.lookup id = some (.box e cs)) (hy : s.ev y = some (.v c a0)) (hnt : notTup a0 = true) (hc : c ≠ .vw)
    (hn:(boxCells (.v c a0)).length=k) (hle:Nat.ble (off+k) cs.length=true) (hM0:∀ b,M0 b→b<w0.w.heap.size):Step P w0 M0 o s (s.upd false id (.box e (spl (keepC id cs) off (boxCells (.v c a0))))):=by
  rintro a w Q ⟨E,hs⟩
  have hle':=Nat.le_of_ble_eq_true hle
  have hxv:=hs.ev hx e cs hl
  obtain ⟨g1,g2⟩:=boxCells_ok (hs.ev hy) (by simp) (by cases a0<;>simp_all [SV.oneV,notTup]) (.inl ⟨c,a0,rfl⟩)
  obtain ⟨vals,h1,h2,h3,h4⟩:=hs.wok.objs id _ hl
  have hvs:(a.eval y).cells.size=k:=by rw [g1,hn]
  have hone:∀ u∈(a.eval y).cells.toList,u.oneCell'=true:=by
    intro u hu
    obtain ⟨j,hj,rfl⟩:=List.getElem_of_mem hu
    have hj':j<(boxCells (.v c a0)).length:=by rw [← g1];simpa using hj
    have:=(g2 j _ (List.getElem?_eq_getElem hj')).2.1
    rw [Array.getD_eq_getD_getElem?] at this
    simp only [Array.length_toList] at hj
    simpa [hj] using this
  have hrun:=run_storeVar (P:=P) (w:=w) (p:=off) hk hvs h1 (by simp;omega) hone
  unfold Oper.wp
  have hexec:(execOp a.eval o).run P w=.ok .skip (w.setRow (E.blk id) (spl vals off (a.eval y).cells.toList).toArray):=by
    simp [execOp,ho,hxv,Instr.storeAt,Instr.sureAddr,hrun]
  rw [hexec]
  simp only [Oper.upon,hd,Act.put]
  have hbl:(a.eval y).cells.toList.length=k:=by simp [hvs]
  have hspl:off+(a.eval y).cells.toList.length≤vals.length:=by omega
  refine ⟨E,hs.upd false (fun _=>⟨rfl,.inr (.inl ⟨e,cs,_,hl,rfl⟩)⟩) hnd hM0 (fun i hi=>⟨rfl,rfl⟩) (.inr rfl) (some (E.blk id)) setRow_grown (fun _=>Nat.le_refl _) (fun g hg=>⟨_,hl,by simpa [ownB] using hg⟩) (fun b hb=>.inl ⟨_,hl,hb⟩) (fun rep sv=>?_)⟩
  refine ⟨_,setRow_heap w _ _ _ e _ h1,h2,?_,fun j d hj=>?_⟩
  · rw [spl_length hspl,spl_length (by simp [keepC,hn];omega)];simp [keepC,h3]
  · rw [spl_get (by simp [keepC, hn]; omega)] at hj
    rw [List.getD_eq_getElem?_getD,spl_get hspl,hbl]
    rw [hn] at hj
    split at hj
    · rename_i hin
      rw [if_pos hin]
      obtain ⟨q1,q2,q3⟩:=g2 _ d hj
      have e1:(a.eval y).cells.toList[j-off]?.getD undef=(a.eval y).cells.getD (j-off) undef:=by rw [Array.getD_eq_getD_getElem?,Array.getElem?_toList]
      rw [e1]
      refine ⟨q1,q2,sv _ _ q3 ?_⟩
      have:∃ d',d=.v c d':=by
        cases a0<;>simp only [boxCells] at hj
        case agg cs=>rw [List.getElem?_map,Option.map_eq_some_iff] at hj;obtain ⟨u,_,rfl⟩:=hj;exact ⟨u,rfl⟩
        all_goals (cases hjj:j-off<;>rw [hjj] at hj<;>simp at hj;subst hj;exact ⟨_,rfl⟩)
      obtain ⟨d',rfl⟩:=this
      cases c<;>first|rfl|exact absurd rfl hc
    · rename_i hin
      rw [if_neg hin]
      simp only [keepC,List.getElem?_map,Option.map_eq_some_iff] at hj
      obtain ⟨d0,hd0,rfl⟩:=hj
      have:=h4 j d0 hd0
      rw [List.getD_eq_getElem?_getD] at this
      split
      · exact ⟨this.1,this.2.1,sv _ _ this.2.2 ‹_›⟩
      · exact ⟨rfl,this.2.1,trivial⟩
theorem step_store_box_own {j:Nat} {e':TypeId} (ho:o.op=.store T x y) (hd:o.dst=none) (hnd:Nodup s.s=true) (hk:szOf P T=some 1) (hx:s.ev x=some (.pbox id off)) (hl:s.o.lookup id=some (.box e cs)) (hy:s.ev y=some (.own j)) (hj:s.o.lookup j=some (.arr e' xs))
    (hle:Nat.ble (off+1) cs.length=true) (hM0:∀ b,M0 b→b<w0.w.heap.size):Step P w0 M0 o s (s.upd false id (.box e (spl (keepC id cs) off [.own j]))):=by
  rintro a w Q ⟨E,hs⟩
  have hle':=Nat.le_of_ble_eq_true hle
  have hxv:=hs.ev hx e cs hl
  have hyv:a.eval y=E.cur j:=hs.ev hy e' xs hj
  obtain ⟨vals',⟨hown,_⟩,_⟩:=hs.wok.objs j _ hj
  have hsl:∃ A n c',a.eval y=.slice A n c':=by
    rw [hyv]
    rcases hown.2 with ⟨h,_⟩|⟨g,cap,cur,h,_⟩<;>exact ⟨_,_,_,h⟩
  obtain ⟨A,n,c',hsl⟩:=hsl
  obtain ⟨vals,h1,h2,h3,h4⟩:=hs.wok.objs id _ hl
  have hrun:=run_storeVar (P:=P) (w:=w) (v:=.slice A n c') (p:=off) hk rfl h1 (by simp;omega) (by simp [Value.cells,Value.oneCell'])
  unfold Oper.wp
  have hexec:(execOp a.eval o).run P w=.ok .skip (w.setRow (E.blk id) (spl vals off [.slice A n c']).toArray):=by
    simp [execOp,ho,hxv,hsl,Instr.storeAt,Instr.sureAddr,hrun,Value.cells]
  rw [hexec]
  simp only [Oper.upon,hd,Act.put]
  have hspl:off+[Value.slice A n c'].length≤vals.length:=by simp;omega
  refine ⟨E,hs.upd false (fun _=>⟨rfl,.inr (.inl ⟨e,cs,_,hl,rfl⟩)⟩) hnd hM0 (fun i hi=>⟨rfl,rfl⟩) (.inr rfl) (some (E.blk id)) setRow_grown (fun _=>Nat.le_refl _) (fun g hg=>⟨_,hl,by simpa [ownB] using hg⟩) (fun b hb=>.inl ⟨_,hl,hb⟩) (fun rep sv=>?_)⟩
  refine ⟨_,setRow_heap w _ _ _ e _ h1,h2,?_,fun j' d hj'=>?_⟩
  · rw [spl_length hspl,spl_length (by simp [keepC];omega)];simp [keepC,h3]
  · rw [spl_get (by simp [keepC]; omega)] at hj'
    rw [List.getD_eq_getElem?_getD,spl_get hspl]
    simp only [List.length_singleton] at hj' ⊢
    split at hj'
    · rename_i hin
      rw [if_pos hin]
      have hz:j'-off=0:=by omega
      rw [hz] at hj' ⊢
      simp only [List.getElem?_cons_zero,Option.some.injEq] at hj'
      subst hj'
      simp only [List.getElem?_cons_zero,Option.getD_some]
      refine ⟨rfl,rfl,sv _ _ ?_ rfl⟩
      rw [← hsl]
      exact hs.ev hy
    · rename_i hin
      rw [if_neg hin]
      simp only [keepC,List.getElem?_map,Option.map_eq_some_iff] at hj'
      obtain ⟨d0,hd0,rfl⟩:=hj'
      have:=h4 j' d0 hd0
      rw [List.getD_eq_getElem?_getD] at this
      split
      · exact ⟨this.1,this.2.1,sv _ _ this.2.2 ‹_›⟩
      · exact ⟨rfl,this.2.1,trivial⟩

theorem pure_index_own {q : IntKind} {i : Int} (ho : o.op = .indexAddr T x y) (hT : P.underlying T = some (.slice e)) (hk : szOf P e = some k) (hx : ρ x = some (.own id)) (hl : ob.lookup id = some (.arr e xs)) (hy : scal ρ y = some (.int q i)) (h : 0 ≤ i ∧ i < xs.length) :
    Pure P w0 M0 o ρ ob (.pel id i.toNat 0) :=
  pure_value fun E w ev hw hh=>by
    have hr:=hh x _ hx e xs hl
    have hi:=scal_ok hh hy
    obtain ⟨vals,⟨hown,hownF⟩,h2,h3⟩:=hw.objs id _ hl
    rcases hown.2 with ⟨hv,hn⟩|⟨g,cap,cur,hv,_⟩
    · omega
    · rw [hv] at hr
      have hel:P.elem T=e:=by simp [Program.elem,hT]
      refine ⟨.pointer (some ⟨g,i.toNat*P.cellsOf e+0,none⟩),w,?_,.refl _ _,fun e' xs' h'=>?_⟩
      · have hin : 0 ≤ i ∧ i < (xs.length : Int) := h
        simp [execOp,ho,hr,hi,run_indexAt_slice,hel,hT,hin,run_size hk,cellsOf_of hk,Addr.add_lit]
      · rw [hl] at h'
        simp only [Option.some.injEq,Ob.arr.injEq] at h'
        obtain ⟨rfl,rfl⟩:=h'
        exact ⟨by omega,g,by rw [hv];rfl,rfl⟩
theorem pure_load_pel {i:Nat} {el a0:AV} (ho:o.op=.load T x) (hT:isAggOf P T=some false) (hx:ρ x=some (.pel id i off)) (hl:ob.lookup id=some (.arr e xs)) (he:xs[i]?=some el) (hc:el.cells[off]?=some a0):Pure P w0 M0 o ρ ob (.v .pl a0) :=
  pure_value fun E w ev hw h=>by
    obtain ⟨hi,g,hg,hr⟩:=h x _ hx e xs hl
    obtain ⟨vals,⟨hown,hownF⟩,h2,h3⟩:=hw.objs id _ hl
    have hoff:off<P.cellsOf e:=by rw [← h2 el (List.mem_of_getElem? he)];exact (List.getElem?_eq_some_iff.1 hc).1
    have hfl:(flat xs)[i*P.cellsOf e+off]?=some a0:=by rw [flat_get xs i el h2 he off hoff];exact hc
    have hvl:i*P.cellsOf e+off<vals.length:=by
      rw [hown.1,← flat_length xs h2];exact (List.getElem?_eq_some_iff.1 hfl).1
    have hcell:=hown.cells hg (i*P.cellsOf e+off) _ (List.getElem?_eq_getElem hvl)
    rw [Addr.add_lit,Nat.zero_add] at hcell
    refine ⟨vals.getD (i*P.cellsOf e+off) undef,w,?_,.refl _ _,(h3 _ a0 hfl).2⟩
    simp [execOp,ho,hr,Instr.loadAt,Instr.sureAddr,loadVar,run_isAggOf hT,hcell,List.getD_eq_getElem?_getD,List.getElem?_eq_getElem hvl]
theorem pure_load_pel_agg {i:Nat} {el:AV} (ho:o.op=.load T x) (hT:isAggOf P T=some true) (hk:szOf P T=some k) (hx:ρ x=some (.pel id i 0)) (hl:ob.lookup id=some (.arr e xs)) (hck:szOf P e=some k) (he:xs[i]?=some el):Pure P w0 M0 o ρ ob (.v .pl (.agg el.cells)) :=
  pure_value fun E w ev hw h=>by
    obtain ⟨hi,g,hg,hr⟩:=h x _ hx e xs hl
    obtain ⟨vals,⟨hown,hownF⟩,h2,h3⟩:=hw.objs id _ hl
    have hce:=cellsOf_of hck
    rw [hce] at hr hown h2
    have hel:=h2 el (List.mem_of_getElem? he)
    have hvl:vals.length=xs.length*k:=hown.1
    have hmul:i*k+k≤xs.length*k:=by rw [← Nat.succ_mul];exact Nat.mul_le_mul_right _ (by omega)
    have hcell:=run_loadCells (P:=P) w ⟨g,i*k,none⟩ k (fun j=>vals.getD (i*k+j) undef) (fun j hj=>by
      have hj':i*k+j<vals.length:=by omega
      have:=hown.cells hg (i*k+j) _ (List.getElem?_eq_getElem hj')
      rw [Addr.add_lit,Nat.zero_add] at this
      rw [Addr.add_lit,this,List.getD_eq_getElem?_getD,List.getElem?_eq_getElem hj'];rfl)
    refine ⟨.agg ((List.range k).map fun j=>vals.getD (i*k+j) undef).toArray,w,?_,.refl _ _,.agg _ _ (by simp [hel]) (fun j d hd=>?_) (fun j d hd=>?_)⟩
    · simp only [execOp,ho,hr,Instr.loadAt,Instr.sureAddr,loadVar,Sem.run_bind,run_isAggOf hT,run_size hk,Result.andThen_ok,Sem.run_pure,if_true,Nat.add_zero,hcell]
    · have hj : j < k := by rw [← hel]; exact (List.getElem?_eq_some_iff.1 hd).1
      exact (h3 (i*k+j) d (by rw [flat_get xs i el h2 he j hj];exact hd)).1
    · have hj : j < k := by rw [← hel]; exact (List.getElem?_eq_some_iff.1 hd).1
      have:=(h3 (i*k+j) d (by rw [flat_get xs i el h2 he j hj];exact hd)).2
      rw [List.getD_eq_getElem?_getD,List.getElem?_map,List.getElem?_range hj]
      exact this

theorem step_store_pel {i : Nat} {el a0 : AV} (ho : o.op = .store T x y) (hd : o.dst = none) (hnd : Nodup s.s = true) (hk : szOf P T = some k) (hx : s.ev x = some (.pel id i off)) (hl : s.o.lookup id = some (.arr e xs)) (he : xs[i]? = some el) (hy : viewAt s.ev s.o y = some (c, a0)) (hnt : notTup a0 = true) (hc : c = .pl ∨ ∃ v, a0 = .sc v)
    (hn:a0.cells.length=k) (hle:off+k≤el.cells.length) (hM0:∀ b,M0 b→b<w0.w.heap.size):Step P w0 M0 o s (s.upd false id (.arr e (xs.set i (reCell el (spl el.cells off a0.cells))))):=by
  rintro a w Q ⟨E,hs⟩
  obtain ⟨hi,g,hg,hxv⟩:=hs.ev hx e xs hl
  have hyr:=viewAt_ok hs.wok (fun x e hx=>hs.ev hx) hy
  have hyp:Rep w (clsM M0 (owned E s.o) .pl) (a.eval y) a0:=by
    rcases hc with rfl|⟨v,rfl⟩
    · exact hyr
    · generalize a.eval y = u at hyr ⊢
      cases hyr;exact .sc _ ‹_›
  obtain ⟨g1,g2,g3⟩:=hyp.cells (fun vs hh=>by subst hh;cases hnt)
  obtain ⟨vals,⟨hown,hownF⟩,h2,h3⟩:=hs.wok.objs id _ hl
  have helk:=h2 el (List.mem_of_getElem? he)
  have hvs:(a.eval y).cells.size=k:=by rw [g1,hn]
  have hone:∀ u∈(a.eval y).cells.toList,u.oneCell'=true:=by
    intro u hu
    obtain ⟨j,hj,rfl⟩:=List.getElem_of_mem hu
    have hj':j<a0.cells.length:=by rw [← g1];simpa using hj
    have q1:=g2 j _ (List.getElem?_eq_getElem hj')
    have:=(g3 j _ (List.getElem?_eq_getElem hj')).one q1
    rw [Array.getD_eq_getD_getElem?] at this
    simp only [Array.length_toList] at hj
    simpa [hj] using this
  obtain ⟨hvl,hform⟩:=hown
  have hpos:i*P.cellsOf e+off+k≤vals.length:=by
    have:i*P.cellsOf e+P.cellsOf e≤xs.length*P.cellsOf e:=by rw [← Nat.succ_mul];exact Nat.mul_le_mul_right _ (by omega)
    omega
  rcases hform with ⟨hv,hn0⟩|⟨g',cap,cur,hv,hgb,hh,hnc,hcm,hcs,htake⟩
  · omega
  · have hgg : g' = g := by rw [hv] at hg; simpa [Value.ownBlock] using hg
    subst hgg
    have hvals:vals.length≤cur.size:=by rw [hvl,hcs];exact Nat.mul_le_mul_right _ hnc
    have hrun:=run_storeVar (P:=P) (w:=w) (p:=i*P.cellsOf e+off) hk hvs hh (by omega) hone
    unfold Oper.wp
    have hexec:(execOp a.eval o).run P w=.ok .skip (w.setRow g' (spl cur.toList (i*P.cellsOf e+off) (a.eval y).cells.toList).toArray):=by
      simp [execOp,ho,hxv,Instr.storeAt,Instr.sureAddr,hrun]
    rw [hexec]
    simp only [Oper.upon,hd,Act.put]
    have hbl:(a.eval y).cells.toList.length=k:=by simp [hvs]
    have hleaf:∀ d∈spl el.cells off a0.cells,AV.leaf d=true:=by
      intro d hd
      obtain ⟨j,hj,rfl⟩:=List.getElem_of_mem hd
      have hj2:=spl_get (l:=el.cells) (m:=a0.cells) (off:=off) (by omega) j
      rw [List.getElem?_eq_getElem hj] at hj2
      split at hj2
      · exact g2 _ _ hj2.symm
      · have hjl : j < P.cellsOf e := by rw [← helk]; rw [spl_length (by omega)] at hj; exact hj
        exact (h3 (i*P.cellsOf e+j) _ (by rw [flat_get xs i el h2 he j hjl];exact hj2.symm)).1
    have hre:=reCell_cells (el:=el) (cs:=spl el.cells off a0.cells) (by rw [spl_length (by omega)]) hleaf
    have hfs:=flat_set (off:=off) (m:=a0.cells) h2 he (by omega) hre
    have hspl:i*P.cellsOf e+off+(a.eval y).cells.toList.length≤vals.length:=by omega
    refine ⟨E,hs.upd false (fun _=>⟨rfl,.inl ⟨e,xs,_,hl,rfl,by simp⟩⟩) hnd hM0 (fun i hi=>⟨rfl,rfl⟩) (.inr rfl) (some g') setRow_grown (fun _=>Nat.le_refl _) (fun g hg'=>⟨_,hl,by simp only [Option.some.injEq] at hg';subst hg';exact hg⟩) (fun b hb=>.inl ⟨_,hl,hb⟩) (fun rep sv=>?_)⟩
    refine ⟨spl vals (i*P.cellsOf e+off) (a.eval y).cells.toList,?_,?_,fun j d hj=>?_⟩
    · refine ⟨⟨by rw [spl_length hspl, hvl, List.length_set], .inr ⟨g', cap, _, by rw [hv, List.length_set], hgb, setRow_heap w _ _ _ e _ hh, by rw [List.length_set]; exact hnc, hcm, ?_, ?_⟩⟩, hownF⟩
      · rw [List.size_toArray,spl_length (by simp;omega)];simpa using hcs
      · rw [List.length_set, ← hvl]
        have ht:cur.toList.take vals.length=vals:=by rw [hvl];exact htake
        apply List.ext_getElem?
        intro j
        rw [List.getElem?_take,spl_get (by simp;omega),spl_get hspl]
        by_cases hj:j<vals.length
        · rw [if_pos hj]
          split
          · rfl
          · have : (cur.toList.take vals.length)[j]? = cur.toList[j]? := by rw [List.getElem?_take, if_pos hj]
            rw [← this,ht]
        · rw [if_neg hj,if_neg (by omega),List.getElem?_eq_none (by omega)]
    · intro u hu
      rcases List.mem_or_eq_of_mem_set hu with h|h
      · exact h2 u h
      · subst h;rw [hre,spl_length (by omega),helk]
    · rw [hfs, spl_get (by rw [flat_length xs h2, ← hvl]; omega)] at hj
      rw [List.getD_eq_getElem?_getD,spl_get hspl,hbl]
      rw [hn] at hj
      split at hj
      · rename_i hin
        rw [if_pos hin]
        have e1:(a.eval y).cells.toList[j-(i*P.cellsOf e+off)]?.getD undef=(a.eval y).cells.getD (j-(i*P.cellsOf e+off)) undef:=by rw [Array.getD_eq_getD_getElem?,Array.getElem?_toList]
        rw [e1]
        exact ⟨g2 _ d hj,rep .pl _ _ (g3 _ d hj) (by simp)⟩
      · rename_i hin
        rw [if_neg hin]
        have:=h3 j d hj
        rw [List.getD_eq_getElem?_getD] at this
        exact ⟨this.1,rep .pl _ _ this.2 (by simp)⟩
end
end Go.Am

