/-
  Scopes and labels;bits;bytes of a list.
-/
import Derived.Test.YtgdehkimfmfofaaGreatJ7
import Derived.MapKept
import Derived.ChangeMaps4
import Derived.Carry
import Derived.Laws.BytesArg
import Derived.Shelf.SlSortCmp.Kit1
import Derived.ProofKit
import Derived.OpenShut
import Derived.Handed
import Derived.Deep.Slices
import Derived.WideKeyArgs
import Derived.Scope
import Derived.Control
import Derived.Lib.SliceRun
set_option linter.unusedVariables false
set_option linter.unusedSectionVars false
set_option linter.unusedSimpArgs false
namespace Go.Am
open Go.RowKit Go.MapKept Go.ChangeMaps

open Classical in
noncomputable def kpos:List Value→Value→Option Nat
  | [],_=>none
  | x :: r,k=>if x=k then some 0 else (kpos r k).map (·+1)
theorem kpos_none {k:Value}:∀ {l:List Value},kpos l k=none↔k ∉ l
  | []=>by simp [kpos]
  | x :: r => by
    unfold kpos
    split
    · rename_i h;subst h;simp
    · rename_i h
      rw [Option.map_eq_none_iff,kpos_none (l:=r),List.mem_cons,not_or]
      exact ⟨fun h'=>⟨fun e=>h e.symm,h'⟩,fun h'=>h'.2⟩
theorem kpos_some {k:Value}:∀ {l:List Value} {i:Nat},kpos l k=some i→l[i]?=some k
  | [],i,h=>by simp [kpos] at h
  | x :: r, i, h => by
    unfold kpos at h
    split at h
    · rename_i he;subst he;simp only [Option.some.injEq] at h;subst h;rfl
    · rw [Option.map_eq_some_iff] at h
      obtain ⟨j,hj,rfl⟩:=h
      simpa using kpos_some hj
noncomputable def putK (ks:List Value) (k:Value):List Value:=match kpos ks k with
  | some _=>ks
  | none=>ks++[k]
noncomputable def putV (ks:List Value) (vs:List AV) (k:Value) (a:AV):List AV:=match kpos ks k with
  | some i=>vs.set i a
  | none=>vs++[a]
noncomputable def mlook (z:AV) (ks:List Value) (vs:List AV) (k:Value):AV:=match kpos ks k with
  | some i=>vs.getD i z
  | none=>z
noncomputable def mhas (ks:List Value) (k:Value):Bool:=(kpos ks k).isSome

theorem findNow_kpos {d:TypeDesc} {k:Value} (hk:IsKey d k):∀ (l:List MapEntry) (i:Nat),(∀ x∈l,IsKey d x.key) →
    Instr.findNow d k l i=some ((kpos (l.map (·.key)) k).map fun j=>(i+j,(l.map (·.val)).getD j undef))
  | [],_,_=>rfl
  | e :: es, i, h => by
    obtain ⟨r,hr,hiff⟩:=sameNow_of_keys hk (h e (.head _))
    simp only [List.map_cons,kpos]
    cases r with
    | true=>rw [if_pos (hiff.1 rfl).symm];simp [Instr.findNow,hr]
    | false =>
      have hne:e.key≠k:=fun q=>by have:=hiff.2 q.symm;cases this
      rw [if_neg hne]
      have ih:=findNow_kpos hk es (i+1) (fun x hx=>h x (.tail _ hx))
      simp only [Instr.findNow,hr,ih,Option.map_map]
      congr 1
      cases kpos (es.map (·.key)) k with
      | none=>rfl
      | some j=>simp;omega

section
variable {P:Program} {w0:Fr} {M0:Nat→Prop}
variable {o:Oper} {ρ:Operand→Option SV} {ob:List (Nat×Ob)} {d:SV} {x y z:Operand} {T T' e:TypeId} {k b:Nat} {c:Cls} {id off:Nat} {s:St} {t:Nat} {ks:List Value} {vs:List AV} {kt et:TypeId} {kd:TypeDesc}

theorem SimE.newMap {E:Env} {a:Act} {w:World} (h:SimE P w0 M0 E s a w) (hnd:Nodup s.s=true) (hM0:∀ b,M0 b→b<w0.w.heap.size) (hpt:t<1000000) :
    SimE P w0 M0 { E with blk:=fun i=>if i=t then w.heap.size else E.blk i } (s.upd true t (.mp [] [])) a (w.alloc (.map #[] 0)):=by
  refine h.upd true (fun h=>by cases h) hnd hM0 (fun i hi=>⟨rfl,by simp [hi]⟩) (.inl (pin_ne hpt)) none (World.grownBy_alloc w _ none) (fun _=>Nat.le_refl _) (fun g hg=>by cases hg) (fun b hb=>.inr ?_) (fun rep sv=>?_)
  · simp only [ownB,if_true] at hb;omega
  · have hblk : Free w0 M0 w.heap.size := h.wok.new_free hM0 (Nat.le_refl _)
    exact ⟨#[],0,by simp only [if_true];exact heap_alloc_new w (.map #[] 0),by simp only [if_true];exact hblk,rfl,rfl,fun j d hd=>by simp at hd⟩
theorem step_map {r:Option Operand} (ho:o.op=.makeMap T r) (hd:o.dst=some t) (hn:Nat.blt t s.n=true) (hpt:Nat.blt t 1000000=true) (hnd:Nodup s.s=true) (hT:P.underlying T=some (.map kt et))
    (hr:∀ q,r=some q→∃ kk n,scal s.ev q=some (.int kk n)) (hM0:∀ b,M0 b→b<w0.w.heap.size):Step P w0 M0 o s ((s.upd true t (.mp [] [])).put t (.omap t)):=by
  rintro a w Q ⟨E,hs⟩
  unfold Oper.wp
  have hexec:(execOp a.eval o).run P w=.ok (.value (.map (some w.heap.size))) (w.alloc (.map #[] 0)):=by
    cases r with
    | none=>simp [execOp,ho,run_makeMap]
    | some q =>
      obtain ⟨kk,n,hq⟩:=hr q rfl
      have hq':a.eval q=.int kk n:=scal_ok (ρ:=s.ev) (x:=q) (ob:=s.o) (ev:=a.eval) (fun x e hx=>hs.ev hx) hq
      simp [execOp,ho,hq',Instr.makeMap,run_underlying hT,asInt,asIntOf,Result.andThen,newObj,Sem.run]
  rw [hexec]
  simp only [Oper.upon,hd]
  refine ⟨{ E with blk:=fun i=>if i=t then w.heap.size else E.blk i },SimE.put (hs.newMap hnd hM0 (Nat.lt_of_succ_le (Nat.le_of_ble_eq_true hpt))) (by simpa [St.upd] using hn) ?_⟩
  intro ks' vs' _
  simp

theorem step_put {key : Value} {a0 : AV} (ho : o.op = .mapUpdate T x y z) (hd : o.dst = none) (hnd : Nodup s.s = true) (hT : P.underlying T = some (.map kt et)) (hkd : P.underlying kt = some kd) (hx : s.ev x = some (.omap id)) (hl : s.o.lookup id = some (.mp ks vs))
    (hy:scal s.ev y=some key) (hz:viewAt s.ev s.o z=some (.pl,a0)) (hk:IsKey kd key) (hks:∀ u∈ks,IsKey kd u) (hM0:∀ b,M0 b→b<w0.w.heap.size) :
    Step P w0 M0 o s (s.upd false id (.mp (putK ks key) (putV ks vs key a0))):=by
  rintro a w Q ⟨E,hs⟩
  have hxv:=hs.ev hx ks vs hl
  have hyv:a.eval y=key:=scal_ok (ρ:=s.ev) (x:=y) (ob:=s.o) (ev:=a.eval) (fun x e hx=>hs.ev hx) hy
  have hzv:=viewAt_ok hs.wok (fun x e hx=>hs.ev hx) hz
  have hob:=hs.wok.objs id _ hl
  obtain ⟨es,clock,h1,h2,h3,h4,h5⟩:=hob
  have hes:∀ u∈es.toList,IsKey kd u.key:=fun u hu=>hks _ (by rw [← h3];exact List.mem_map_of_mem hu)
  have hf:=findNow_kpos hk es.toList 0 hes
  rw [h3] at hf
  have key3:∃ (es':Array MapEntry) (clock':Nat),(Instr.mapUpdate T (.map (some (E.blk id))) key (a.eval z)).run P w=.ok () (setBlock w (E.blk id) (.map es' clock'))∧es'.toList.map (·.key)=putK ks key ∧
      (putK ks key).length=(putV ks vs key a0).length∧(∀ (j:Nat) d,(putV ks vs key a0)[j]?=some d→Rep w (clsM M0 (owned E s.o) .pl) ((es'.toList.map (·.val)).getD j undef) d):=by
    unfold putK putV
    cases hp:kpos ks key with
    | none =>
      rw [hp] at hf;simp [Option.map] at hf
      refine ⟨es.push ⟨key,a.eval z,clock⟩,clock+1,?_,by simp [h3],by simp [h4],fun j d hd=>?_⟩
      · simp [Instr.mapUpdate,run_underlying hT,MapKept.run_getObj_map h1,run_checkKey hkd hk,run_findKey hkd hf,MapKept.run_setObj_map _ h1,Result.andThen,setBlock]
      · have hvl : (es.toList.map (·.val)).length = vs.length := by rw [← h4, ← h3]; simp
        simp only [Array.toList_push,List.map_append,List.map_singleton]
        rw [List.getD_eq_getElem?_getD]
        rcases Nat.lt_or_ge j vs.length with hj|hj
        · rw [List.getElem?_append_left (by omega)] at hd
          rw [List.getElem?_append_left (by omega),← List.getD_eq_getElem?_getD]
          exact h5 j d hd
        · rw [List.getElem?_append_right hj] at hd
          rw [List.getElem?_append_right (by omega),hvl]
          cases hj0:j-vs.length with
          | zero=>rw [hj0] at hd;simp only [List.getElem?_cons_zero,Option.some.injEq] at hd;subst hd;exact hzv
          | succ q=>rw [hj0] at hd;simp at hd
    | some i =>
      rw [hp] at hf;simp [Option.map] at hf
      have hki:=kpos_some hp
      rw [← h3,List.getElem?_map,Option.map_eq_some_iff] at hki
      obtain ⟨e0,he0,hek⟩:=hki
      rw [Array.getElem?_toList] at he0
      have hkeys:(es.modify i fun e=>{ e with key:=key,val:=a.eval z }).toList.map (·.key)=ks:=by
        rw [modify_keys i _ (fun e he=>by rw [he0] at he;simp only [Option.some.injEq] at he;subst he;exact hek.symm),h3]
      refine ⟨es.modify i fun e=>{ e with key:=key,val:=a.eval z },clock,?_,hkeys,by simp [h4],fun j d hd=>?_⟩
      · have hst := run_keyThatStays (P := P) (w := w) hk
        simp [Instr.mapUpdate,run_underlying hT,MapKept.run_getObj_map h1,run_checkKey hkd hk,run_findKey hkd hf,MapKept.run_setObj_map _ h1,Result.andThen,setBlock,he0,hek,hst]
      · have hvl : (es.toList.map (·.val)).length = vs.length := by rw [← h4, ← h3]; simp
        rw [List.getElem?_set] at hd
        rw [List.getD_eq_getElem?_getD,List.getElem?_map,Array.getElem?_toList,Array.getElem?_modify]
        split at hd
        · rename_i hij
          subst hij
          rw [if_pos rfl,he0]
          split at hd
          · simp only [Option.some.injEq] at hd;subst hd;exact hzv
          · cases hd
        · rename_i hij
          rw [if_neg hij,← Array.getElem?_toList,← List.getElem?_map,← List.getD_eq_getElem?_getD]
          exact h5 j d hd
  obtain ⟨es',clock',hrun,hkeys,hlen,hreps⟩:=key3
  unfold Oper.wp
  have hexec:(execOp a.eval o).run P w=.ok .skip (setBlock w (E.blk id) (.map es' clock')):=by
    simp [execOp,ho,hxv,hyv,hrun,Result.andThen]
  rw [hexec]
  simp only [Oper.upon,hd,Act.put]
  have hgrow:w.grownBy (setBlock w (E.blk id) (.map es' clock')) (some (E.blk id)):=⟨rfl,rfl,rfl,by simp [setBlock],fun i _ hi=>heap_setBlock_other h1 _ (fun e=>hi (by rw [e]))⟩
  refine ⟨E,hs.upd false (fun _=>⟨rfl,.inr (.inr ⟨ks,vs,_,_,hl,rfl⟩)⟩) hnd hM0 (fun i hi=>⟨rfl,rfl⟩) (.inr rfl) (some (E.blk id)) hgrow (fun _=>Nat.le_refl _) (fun g hg=>⟨_,hl,by simpa [ownB] using hg⟩) (fun b hb=>.inl ⟨_,hl,hb⟩) (fun rep sv=>?_)⟩
  exact ⟨es',clock',heap_setBlock_same h1 _,h2,hkeys,hlen,fun j d hj=>rep .pl _ _ (hreps j d hj) (by simp)⟩

theorem pure_mlen (ho : o.op = .call { callee := .builtin .len, args := #[x], argTypes := #[T] }) (hT : P.underlying T = some (.map kt et)) (hx : viewAt ρ ob x = some (c, .mp ks vs)) : Pure P w0 M0 o ρ ob (.v .pl (int ks.length)) :=
  pure_value fun E w ev hw h=>by
    have hr:=viewAt_ok hw h hx
    generalize hq:ev x=q at hr
    cases hr with
    | mp b es clock ks vs hM hb h1 h3 h4 h5 =>
      refine ⟨.int .i64 es.size,w,?_,.refl _ _,?_⟩
      · simp [execOp,ho,hq,resolve,invoke,builtin,Builtin.len_,goInt,run_underlying hT,MapKept.run_getObj_map h1,Result.andThen]
      · have : ks.length = es.size := by rw [← h3]; simp
        rw [this];exact .sc _ rfl
theorem pure_neq_mnil (ho:o.op=.binOp .neq T x y T') (hT:P.underlying T=some (.map kt et)) (hx:viewAt ρ ob x=some (c,.mp ks vs)) (hy:scal ρ y=some (.map none)):Pure P w0 M0 o ρ ob (.v .pl (bool true)) :=
  pure_value fun E w ev hw h=>by
    have hr:=viewAt_ok hw h hx
    have hyv:ev y=.map none:=scal_ok h hy
    generalize hq:ev x=q at hr
    cases hr with
    | mp b es clock ks vs hM hb h1 h3 h4 h5 =>
      exact ⟨.bool true,w,by simp [execOp,ho,hq,hyv,eqGuard,run_neq_map_nil w T kt et (some b) hT],.refl _ _,.sc _ rfl⟩
theorem pure_neq_mnil0 (ho:o.op=.binOp .neq T x y T') (hT:P.underlying T=some (.map kt et)) (hx:scal ρ x=some (.map none)) (hy:scal ρ y=some (.map none)):Pure P w0 M0 o ρ ob (.v .pl (bool false)) :=
  pure_value fun E w ev hw h=>by
    have hxv:ev x=.map none:=scal_ok h hx
    have hyv:ev y=.map none:=scal_ok h hy
    exact ⟨.bool false,w,by simp [execOp,ho,hxv,hyv,eqGuard,run_neq_map_nil w T kt et none hT],.refl _ _,.sc _ rfl⟩
/-! What the call owns, handed over for good: read as data from here on. -/
def frz1 (o o' : List (Nat × Ob)) : SV → Option AV
  | .v .pl d=>some d
  | .v _ (.sc u)=>some (.sc u)
  | .own id => match o.lookup id, o'.lookup id with
    | some (.arr _ xs),none=>some (.sl xs)
    | _,_=>none
  | .omap id => match o.lookup id, o'.lookup id with
    | some (.mp ks vs),none=>some (.mp ks vs)
    | _,_=>none
  | _=>none
def frzL (o o' : List (Nat × Ob)) : List SV → Option (List AV)
  | []=>some []
  | d :: r => match frz1 o o' d, frzL o o' r with
    | some a,some az=>some (a :: az)
    | _,_=>none
def frz (o o' : List (Nat × Ob)) : SV → Option AV
  | .pbox id off => match o.lookup id, o'.lookup id with
    | some (.box _ cs), none => match frzL o o' cs with
      | some az=>some (.pc az off)
      | none=>none
    | _,_=>none
  | d=>frz1 o o' d
theorem frzL_get {o o':List (Nat×Ob)}:∀ {l:List SV} {az:List AV},frzL o o' l=some az→l.length=az.length∧∀ (j:Nat) a,az[j]?=some a→∃ d,l[j]?=some d∧frz1 o o' d=some a
  | [],az,h=>by simp only [frzL,Option.some.injEq] at h;subst h;exact ⟨rfl,fun j a h=>by simp at h⟩
  | d :: r, az, h => by
    unfold frzL at h
    split at h
    · rename_i a1 as1 h1 h2
      simp only [Option.some.injEq] at h
      subst h
      obtain ⟨g1,g2⟩:=frzL_get h2
      refine ⟨by simp [g1],fun j a hj=>?_⟩
      cases j with
      | zero=>simp only [List.getElem?_cons_zero,Option.some.injEq] at hj;subst hj;exact ⟨d,rfl,h1⟩
      | succ j=>exact g2 j a (by simpa using hj)
    · cases h
section
variable {w:World} {E:Env} {o o':List (Nat×Ob)}
theorem not_owned' (hw:WOk P w0 M0 E o w) (ho:∀ id ob,o'.lookup id=some ob→o.lookup id=some ob) (hM0:∀ b,M0 b→b<w0.w.heap.size) {id b:Nat} {ob0:Ob} (h:o.lookup id=some ob0) (hn:o'.lookup id=none) (hb:ownB E id b ob0) :
    ¬ clsM M0 (owned E o') .pl b:=by
  rintro (h1|⟨i,obx,h1,h2⟩)
  · exact ((hw.objs id _ h).own_range hb).1.2 h1
  · have := hw.disj i obx id ob0 b (ho i obx h1) h h2 hb
    subst this
    rw [hn] at h1;cases h1
theorem frz1_ok (hw:WOk P w0 M0 E o w) (ho:∀ id ob,o'.lookup id=some ob→o.lookup id=some ob) (hM0:∀ b,M0 b→b<w0.w.heap.size) {v:Value} {d:SV} {a:AV} (h:SVok P M0 w E o v d) (hd:frz1 o o' d=some a) :
    Rep w (clsM M0 (owned E o') .pl) v a:=by
  have hown:∀ b,owned E o' b→owned E o b:=fun b ⟨id,ob,h1,h2⟩=>⟨id,ob,ho id ob h1,h2⟩
  unfold frz1 at hd
  split at hd
  · simp only [Option.some.injEq] at hd
    subst hd
    exact Rep.weak h (clsM_mono hown .pl)
  · simp only [Option.some.injEq] at hd
    subst hd
    cases h
    exact .sc _ ‹_›
  · rename_i id
    split at hd
    · rename_i e xs hl hn
      simp only [Option.some.injEq] at hd
      subst hd
      rw [h e xs hl]
      exact (hw.objs id _ hl).rep (clsM_mono hown .pl) (fun g hg=>not_owned' hw ho hM0 hl hn hg)
    · cases hd
  · rename_i id
    split at hd
    · rename_i ks vs hl hn
      simp only [Option.some.injEq] at hd
      subst hd
      rw [h ks vs hl]
      have hlt:=((hw.objs id _ hl).own_range rfl).2
      obtain ⟨es,clock,h1,h2,h3,h4,h5⟩:=hw.objs id _ hl
      exact .mp _ es clock ks vs (not_owned' hw ho hM0 hl hn rfl) hlt h1 h3 h4 fun j d hd=>(h5 j d hd).weak (clsM_mono hown .pl)
    · cases hd
  · cases hd
theorem frz1_leaf {d:SV} {a:AV} (hd:frz1 o o' d=some a) (hl:SV.leaf d=true):AV.leaf a=true:=by
  unfold frz1 at hd
  split at hd
  · simp only [Option.some.injEq] at hd;subst hd;exact hl
  · simp only [Option.some.injEq] at hd;subst hd;rfl
  · split at hd
    · simp only [Option.some.injEq] at hd;subst hd;rfl
    · cases hd
  · split at hd
    · simp only [Option.some.injEq] at hd;subst hd;rfl
    · cases hd
  · cases hd
theorem frz_ok (hw : WOk P w0 M0 E o w) (ho : ∀ id ob, o'.lookup id = some ob → o.lookup id = some ob) (hM0 : ∀ b, M0 b → b < w0.w.heap.size) {v : Value} {d : SV} {a : AV} (h : SVok P M0 w E o v d) (hd : frz o o' d = some a) :
    Rep w (clsM M0 (owned E o') .pl) v a:=by
  unfold frz at hd
  split at hd
  · rename_i id off
    split at hd
    · rename_i e cs hl hn
      split at hd
      · rename_i az has
        simp only [Option.some.injEq] at hd
        subst hd
        rw [h e cs hl]
        have hlt:=((hw.objs id _ hl).own_range rfl).2
        obtain ⟨vals,h1,h2,h3,h4⟩:=hw.objs id _ hl
        obtain ⟨g1,g2⟩:=frzL_get has
        have:=Rep.pc (w:=w) (M:=clsM M0 (owned E o') .pl) (E.blk id) 0 off az (fun j=>vals.getD j undef) (not_owned' hw ho hM0 hl hn rfl) hlt (fun j hj=>?_) (fun j a hj=>?_) (fun j a hj=>?_)
        · rw [Nat.zero_add] at this;exact this
        · have hj' : j < vals.length := by omega
          rw [cell_of_row w _ _ _ e (0,0) h1]
          simp [List.getD_eq_getElem?_getD,List.getElem?_eq_getElem hj']
        · obtain ⟨d, hd1, hd2⟩ := g2 j a hj
          exact frz1_leaf hd2 (h4 j d hd1).1
        · obtain ⟨d, hd1, hd2⟩ := g2 j a hj
          exact frz1_ok hw ho hM0 (h4 j d hd1).2.2 hd2
      · cases hd
    · cases hd
  · exact frz1_ok hw ho hM0 h hd
end
def HasF (s:St) (o':List (Nat×Ob)):List (Nat×SV)→Prop
  | []=>True
  | (t,d) :: r=>(s.s.lookup t=some d∨∃ q a,s.s.lookup t=some q∧frz s.o o' q=some a∧d=.v .pl a)∧HasF s o' r
theorem HasF.out {s:St} {o':List (Nat×Ob)}:∀ {l:List (Nat×SV)},HasF s o' l→∀ t d,l.lookup t=some d→s.s.lookup t=some d∨∃ q a,s.s.lookup t=some q∧frz s.o o' q=some a∧d=.v .pl a
  | [],_,t,d,h=>by simp at h
  | (u, e) :: r, h, t, d, hl => by
    rw [lookup_cons'] at hl
    split at hl
    · rename_i he
      subst he
      simp only [Option.some.injEq] at hl
      subst hl
      exact h.1
    · exact HasF.out h.2 t d hl
theorem imp_frz {s:St} {l:List (Nat×SV)} {o':List (Nat×Ob)} (hM0:∀ b,M0 b→b<w0.w.heap.size) (hl:HasF s o' l) (ho:HasO s o'):Imp P w0 M0 s ⟨s.n,l,o'⟩:=by
  rintro a w ⟨E,hs⟩
  have ho':=ho.out
  obtain ⟨E1,h1⟩:=imp_has (P:=P) (w0:=w0) (M0:=M0) (s:=s) (l:=[]) (o':=o') trivial ho a w ⟨E,hs⟩
  have h2:SimE P w0 M0 E ⟨s.n,[],o'⟩ a w:=by
    have hown:∀ b,owned E o' b→owned E s.o b:=fun b ⟨id,ob,h1,h2⟩=>⟨id,ob,ho' id ob h1,h2⟩
    refine ⟨hs.size,hs.defers,fun t d ht=>by simp at ht,fun id ob hid=>?_,fun id ob id' ob' b h1 h2=>hs.wok.disj id ob id' ob' b (ho' _ _ h1) (ho' _ _ h2),hs.wok.below,hs.wok.pins⟩
    have:=hs.wok.objs id ob (ho' id ob hid)
    cases ob with
    | arr e xs =>
      obtain ⟨vals,h1,h2,h3⟩:=this
      exact ⟨vals,h1,h2,fun j d hd=>⟨(h3 j d hd).1,(h3 j d hd).2.weak (clsM_mono hown .pl)⟩⟩
    | box e cs =>
      obtain ⟨vals,h1,h2,h3,h4⟩:=this
      exact ⟨vals,h1,h2,h3,fun j sv hj=>⟨(h4 j sv hj).1,(h4 j sv hj).2.1,(h4 j sv hj).2.2.fewer ho'⟩⟩
    | mp ks vs =>
      obtain ⟨es,clock,h1,h2,h3,h4,h5⟩:=this
      exact ⟨es,clock,h1,h2,h3,h4,fun j d hd=>(h5 j d hd).weak (clsM_mono hown .pl)⟩
    | nar e cs ln =>
      obtain ⟨n,vals,h1,h2,h3,h4,h5⟩:=this
      exact ⟨n,vals,h1,h2,h3,h4.weak hown,h5⟩
    | nmp ks cs ln =>
      obtain ⟨es,clock,h1,h2,h3,h4,h5,h6,h7⟩:=this
      exact ⟨es,clock,h1,h2,h3,h4,h5,h6.weak hown,h7⟩
  refine ⟨E,h2.size,h2.defers,fun t d ht=>?_,h2.wok⟩
  rcases hl.out t d ht with h|⟨q,av,h3,h4,rfl⟩
  · have := hs.slots t d h
    exact ⟨this.1,this.2.fewer ho'⟩
  · have := hs.slots t q h3
    exact ⟨this.1,frz_ok hs.wok ho' hM0 this.2 h4⟩
theorem ol_frz {ops:Array Oper} {Q:St→Prop} {l':List Oper} (n:Nat) (l:List (Nat×SV)) (o':List (Nat×Ob)) (hM0:∀ b,M0 b→b<w0.w.heap.size) (hn:s.n=n) (hl:HasF s o' l) (ho:HasO s o') (h:OpsL P w0 M0 ops Q l' ⟨n,l,o'⟩):OpsL P w0 M0 ops Q l' s:=by
  subst hn
  exact OpsL.imp (imp_frz hM0 hl ho) h
theorem code_frz {y:Code} {Q:Exit→St→Prop} (n:Nat) (l:List (Nat×SV)) (o':List (Nat×Ob)) (hM0:∀ b,M0 b→b<w0.w.heap.size) (hn:s.n=n) (hl:HasF s o' l) (ho:HasO s o') (h:CodeOk P w0 M0 y ⟨n,l,o'⟩ Q):CodeOk P w0 M0 y s Q:=by
  subst hn
  exact CodeOk.imp (imp_frz hM0 hl ho) h
/- Short forms, so that a claim stays within its bound on bytes. -/
theorem dq:(∀ (p:Prop) [Decidable p],(decide p=true)=p)∧(∀ (p:Prop) [Decidable p],(decide p=false)=¬p)∧(∀ b:Bool,((!b)=true)=(b=false))∧(∀ b:Bool,((!b)=false)=(b=true))∧(∀ a b:Bool,((a&&b)=true)=(a=true∧b=true))∧(∀ a b:Bool,((a||b)=true)=(a=true∨b=true))∧(∀ a b:Bool,((a&&b)=false)=(a=false∨b=false))∧(∀ (α β:Type) (f:α→β) (l:List α),(l.map f).length=l.length)∧(∀ n:Nat,(n:Int).toNat=n) :=
  ⟨fun p _=>decide_eq_true_eq,fun p _=>propext decide_eq_false_iff_not,fun b=>Bool.not_eq_true' b,fun b=>Bool.not_eq_false' b,fun a b=>Bool.and_eq_true a b,fun a b=>Bool.or_eq_true a b,fun a b=>propext Bool.and_eq_false_iff,fun _ _ f l=>List.length_map f,Int.toNat_natCast⟩
theorem ll:(∀ (α β:Type) (f:α→β) (l:List α),(l.map f).length=l.length)∧(∀ (α:Type) (a b:List α),(a++b).length=a.length+b.length)∧(∀ (α:Type) (a:α) (b:List α),(a :: b).length=b.length+1)∧(∀ α:Type,([]:List α).length=0)∧(∀ (α:Type) (l:List α) (i:Nat) (a:α),(l.set i a).length=l.length)∧(∀ (α:Type) (n:Nat) (a:α),(List.replicate n a).length=n)∧(∀ (α:Type) (l:List α) (i:Nat),(l.take i).length=min i l.length)∧(∀ (α:Type) (l:List α) (i:Nat),(l.drop i).length=l.length-i)∧(∀ n:Nat,(List.range n).length=n) :=
  ⟨fun _ _ f l=>List.length_map f,fun _ _ _=>List.length_append,fun _ _ _=>List.length_cons,fun _=>rfl,fun _ _ _ _=>List.length_set,fun _ _ _=>List.length_replicate,fun _ _ _=>List.length_take,fun _ _ _=>List.length_drop,fun _=>List.length_range⟩
def lkS (s:St):List (Nat×SV)→List (Option SV)
  | []=>[]
  | (t,_) :: r=>s.s.lookup t :: lkS s r
def lkO (s:St):List (Nat×Ob)→List (Option Ob)
  | []=>[]
  | (t,_) :: r=>s.o.lookup t :: lkO s r
def vlS {α:Type}:List (Nat×α)→List (Option α)
  | []=>[]
  | (_,d) :: r=>some d :: vlS r
theorem hasS {s:St}:∀ {l:List (Nat×SV)},lkS s l=vlS l→Has s l
  | [],_=>trivial
  | (_,_) :: _,h=>⟨(List.cons.inj h).1,hasS (List.cons.inj h).2⟩
theorem dpk {ops:Array Oper} {Q:St→Prop} {l':List Oper} {i:Nat} (n:Nat) (l:List (Nat×SV)) (o':List (Nat×Ob)) (hn:s.n=n) (ho:s.o=o') (hl:lkS s l=vlS l) (h:DrawS P w0 M0 ops Q l' i ⟨n,l,o'⟩):DrawS P w0 M0 ops Q l' i s:=dl_pick n l o' hn ho (hasS hl) h
end
end Go.Am

namespace Go.Am
open Go.RowKit
def numsOf : List AV → Option (List Int)
  | []=>some []
  | .sc (.int .u8 n) :: r => match numsOf r with
    | some l=>some (n :: l)
    | none=>none
  | _=>none
section
variable {P:Program} {w0:Fr} {M0:Nat→Prop}
variable {o:Oper} {ρ:Operand→Option SV} {ob:List (Nat×Ob)} {x:Operand} {T T' e:TypeId} {c:Cls} {xs:List AV} {l:List Int}
theorem src_take {α:Type} {s:St} {y:Operand} {f:α→AV} {l:List α} {n:Nat} (hy:viewAt s.ev s.o y=some (c,.sl ((l.map f).take n))) (hf:∀ x,∃ v,f x=.sc v):Src P w0 M0 s y 1 ((l.take n).map f):=by
  rw [← List.map_take] at hy
  exact src_scm hy hf
end
end Go.Am

namespace Go.Am
open Go.RowKit Go.Sort Go.Proofs
structure SortsI (P:Program) (f:FuncId):Prop where
  callable:Callable P f
  none:∀ (p:Option Addr) (cap:Nat) (fv:Value) (w:World),Calls P f #[.slice p 0 cap,fv] w fun e w'=>e=.returned (.tuple #[])∧w'=w
  some:∀ {α:Type} [Inhabited α] (enc:α→Value) (h1:OneCell enc) (cf:α→α→Int) (hO:SWO (ltOf cf)) (g:Nat) (cb:Array Value) (blk off cap:Nat) (d:Array α) (w:World)
    (eg:∀ args w,(callFunc g args).run P w=.ok (.enter g args) w) (hcmp:CmpLays1 P g cb enc cf blk off d.size w) (hH:Holds enc w blk off d) (hblk:blk<w.heap.size) (hsz:d.size<4611686018427387904) (hT:∀ x y,(ltOf cf) x y=false→(ltOf cf) y x=false→x=y),
    Calls P f #[.slice (.some ⟨blk,off,.none⟩) d.size cap,.func (.func g) #[] cb] w fun e w' =>
      e=.returned (.tuple #[])∧∃ n os,w'=sortWorld enc w blk off n (d.toList.mergeSort fun x y=>!(ltOf cf) y x).toArray os

section
variable {α:Type} [Inhabited α] {enc:α→Value}
theorem sortWorld_size (w:World) (blk off m:Nat) (dk:Array α) (os:Array Obj):(sortWorld enc w blk off m dk os).heap.size=w.heap.size+os.size:=by
  simp [sortWorld,grow,putRow,mapBlock,Sort.ahead]
theorem sortWorld_other (w:World) (blk off m:Nat) (dk:Array α) (os:Array Obj) {k:Nat} (hk:k≠blk) (hs:k<w.heap.size):(sortWorld enc w blk off m dk os).heap[k]?=w.heap[k]?:=by
  simp only [sortWorld,grow,putRow,mapBlock,Sort.ahead]
  rw [Array.getElem?_append_left (by simpa using hs),Array.getElem?_modify,if_neg (fun h=>hk h.symm)]
theorem sortWorld_same (w:World) (blk off m:Nat) (dk:Array α) (os:Array Obj) {c:Array Value} {e:TypeId} {fr:Nat×Nat} (h:w.heap[blk]?=some (.cells c e fr)):(sortWorld enc w blk off m dk os).heap[blk]?=some (.cells (putCells enc off dk c) e fr):=by
  have hs:=(Array.getElem?_eq_some_iff.1 h).1
  simp only [sortWorld,grow,putRow,mapBlock,Sort.ahead]
  rw [Array.getElem?_append_left (by simpa using hs),Array.getElem?_modify,if_pos rfl,h]
  rfl
theorem grow_of_below {w w':World} (h:Below w.heap.size w w'):∃ q os,w'=grow (w.drewN q) os:=by
  refine ⟨w'.drawn-w.drawn,w'.heap.extract w.heap.size w'.heap.size,?_⟩
  have hheap:w'.heap=w.heap++w'.heap.extract w.heap.size w'.heap.size:=by
    apply Array.ext_getElem?
    intro k
    rcases Nat.lt_or_ge k w.heap.size with hk|hk
    · rw [Array.getElem?_append_left hk,h.block k hk]
    · rw [Array.getElem?_append_right hk, Array.getElem?_extract]
      have:=h.size
      split
      · congr 1;omega
      · rw [Array.getElem?_eq_none];omega
  have hd:=h.drawn trivial
  obtain ⟨h1,h2,h3,_,_⟩:=h.toBelow
  cases w'
  simp only [grow,World.drewN] at *
  congr
  omega
end

section
variable {P:Program} {w0:Fr} {M0:Nat→Prop}
variable {o:Oper} {s:St} {x y:Operand} {T T' e:TypeId} {c:Cls} {id t:Nat}
theorem flat_sv {α:Type} (f:α→Value):∀ l:List α,flat (l.map fun z=>AV.sc (f z))=l.map fun z=>.sc (f z)
  | []=>rfl
  | a :: r => by
    have ih:=flat_sv f r
    simp only [flat,List.map_cons,List.flatMap_cons,AV.cells,List.cons_append,List.nil_append] at ih ⊢
    rw [ih]
end
end Go.Am

namespace Go.Am
open Go.RowKit
section
variable {P:Program} {w0:Fr} {M0:Nat→Prop} {s:St}
theorem imp_nilown (b j K:Nat) (e eb:TypeId) {cs:List SV} (hM0:∀ b,M0 b→b<w0.w.heap.size) (hnd:Nodup s.s=true) (hb:(s.upd true K (.arr e [])).o.lookup b=some (.box eb cs)) (hj:cs[j]?=some (.v .pl (.sc (.slice none 0 0))))
    (hnd':Nodup (s.upd true K (.arr e [])).s=true):Imp P w0 M0 s ((s.upd true K (.arr e [])).upd false b (.box eb ((keepC b cs).set j (.own K)))):=by
  rintro a w ⟨E,hs⟩
  have h1:=hs.newArr (t:=K) (e:=e) (xs:=[]) (v:=.slice none 0 0) hnd hM0 (w':=w) ⟨rfl,rfl,rfl,Nat.le_refl _,fun _ _ _=>rfl⟩ (fun _=>Nat.le_refl _) (vals:=[]) (World.ownsRow_nil w _ _ _) (fun b hb=>by cases hb) (fun x hx=>by cases hx) (fun j d hd=>by simp [flat] at hd)
  generalize hE1:({ E with cur:=fun i=>if i=K then .slice none 0 0 else E.cur i }:Env)=E1 at h1
  have hc:E1.cur K=.slice none 0 0:=by rw [← hE1];simp
  refine ⟨E1,h1.upd false (fun _=>⟨rfl,.inr (.inl ⟨eb,cs,_,hb,rfl⟩)⟩) hnd' hM0 (fun i hi=>⟨rfl,rfl⟩) (.inr rfl) none ⟨rfl,rfl,rfl,Nat.le_refl _,fun _ _ _=>rfl⟩ (fun _=>Nat.le_refl _) (fun g hg=>by cases hg) (fun b' hb'=>.inl ⟨_,hb,hb'⟩) (fun rep sv=>?_)⟩
  obtain ⟨vals,g1,g2,g3,g4⟩:=h1.wok.objs b _ hb
  refine ⟨vals,g1,g2,by simpa [keepC] using g3,fun i d hd=>?_⟩
  by_cases hi:j=i
  · subst hi
    have hjl:j<cs.length:=(List.getElem?_eq_some_iff.1 hj).1
    rw [List.getElem?_set_self (by simpa [keepC] using hjl)] at hd
    simp only [Option.some.injEq] at hd
    subst hd
    have:=g4 j _ hj
    refine ⟨rfl,this.2.1,fun e' xs' _=>?_⟩
    rw [hc]
    have h5:Rep w _ (vals.getD j undef) (.sc (.slice none 0 0)):=this.2.2
    generalize vals.getD j undef=u at h5 ⊢
    cases h5;rfl
  · rw [List.getElem?_set_ne hi] at hd
    simp only [keepC,List.getElem?_map,Option.map_eq_some_iff] at hd
    obtain ⟨d0,hd0,rfl⟩:=hd
    have:=g4 i d0 hd0
    split
    · exact ⟨this.1,this.2.1,sv _ _ this.2.2 ‹_›⟩
    · exact ⟨rfl,this.2.1,trivial⟩
theorem code_nilown {y:Code} {Q:Exit→St→Prop} (b j K:Nat) (e eb:TypeId) {cs:List SV} (hM0:∀ b,M0 b→b<w0.w.heap.size) (hnd:Nodup s.s=true) (hb:(s.upd true K (.arr e [])).o.lookup b=some (.box eb cs)) (hj:cs[j]?=some (.v .pl (.sc (.slice none 0 0))))
    (hnd':Nodup (s.upd true K (.arr e [])).s=true) (h:CodeOk P w0 M0 y ((s.upd true K (.arr e [])).upd false b (.box eb ((keepC b cs).set j (.own K)))) Q):CodeOk P w0 M0 y s Q :=
  CodeOk.imp (imp_nilown b j K e eb hM0 hnd hb hj hnd') h
end
end Go.Am

namespace Go.Am
open Go.RowKit
section
variable {P:Program} {w0:Fr} {M0:Nat→Prop} {s:St}
variable {o:Oper} {ρ:Operand→Option SV} {ob:List (Nat×Ob)} {x y z:Operand} {T e:TypeId} {k:Nat} {xs:List AV} {id:Nat}
theorem pure_to {c:Cls} {b b':Bool} (h:Pure P w0 M0 o ρ ob (.v c (bool b))) (e:b=b'):Pure P w0 M0 o ρ ob (.v c (bool b')):=by
  subst e;exact h
theorem pure_callb {cx:Operand} {args:Array Operand} {ats:Array TypeId} {c:Cls} {f:FuncId} {caps ds:List AV} {b b':Bool}
    (ho:o.op=.call { callee:=.value cx,args:=args,argTypes:=ats }) (hc:ρ cx=some (.v c (.clo f caps))) (ha:viewAll ρ ob args.toList=some ds) (h:CallF P f (ds++caps) (.p (bool b)))
    (hM0:∀ b,M0 b→b<w0.w.heap.size) (e:b=b'):Pure P w0 M0 o ρ ob (.v .pl (bool b')):=by
  subst e;exact pure_call ho hc ha h hM0
theorem pure_slice_own {q':IntKind} {j:Int} (ho:o.op=.slice T x none (some z) none) (hT:P.underlying T=some (.slice e)) (hk:szOf P e=some k) (hx:ρ x=some (.own id)) (hl:ob.lookup id=some (.arr e xs)) (hz:scal ρ z=some (.int q' j)) (h:0≤j∧j≤xs.length) :
    Pure P w0 M0 o ρ ob (.vsl id 0 j.toNat) :=
  pure_value fun E w ev hw hh=>by
    have hr:=hh x _ hx e xs hl
    have hz':=scal_ok hh hz
    obtain ⟨vals,⟨hown,hownF⟩,h2,h3⟩:=hw.objs id _ hl
    have hu:∃ a cap,E.cur id=.slice a xs.length cap∧xs.length≤cap:=by
      rcases hown.2 with ⟨hv,hn⟩|⟨g,cap,cur,hv,hgb,hh,hnc,_⟩
      · exact ⟨none,0,by rw [hv,hn],by omega⟩
      · exact ⟨_,cap,hv,hnc⟩
    obtain ⟨a,cap,hv,hc⟩:=hu
    have hrun:(Instr.slice T (.slice a xs.length cap) none (some (.int q' j)) none).run P w=.ok (sliced a 0 j.toNat cap k) w:=by
      have hj:0≤j∧j≤(cap:Int):=by omega
      simp [Instr.slice,run_underlying hT,Instr.sliceBounds,run_sliceBound,hj,run_size hk,sliced]
    have hel:P.elem T=e:=by simp [Program.elem,hT]
    refine ⟨sliced a 0 j.toNat cap k,w,?_,.refl _ _,fun e' xs' hl'=>?_⟩
    · simp only [execOp,ho,hr,hv,hz',Option.map_some,Option.map_none,Sem.run_bind,run_sliceAt_slice (P:=P) (w:=w) T _ _ _ _ (by rw [hel];exact hT),hrun,Result.andThen_ok,Sem.run_pure]
    · rw [hl] at hl'
      simp only [Option.some.injEq,Ob.arr.injEq] at hl'
      obtain ⟨rfl,rfl⟩:=hl'
      exact ⟨by omega,a,_,cap,hv,by rw [cellsOf_of hk,Nat.zero_add]⟩
theorem addr_add0 (a:Addr):a.add 0=a:=by
  unfold Addr.add
  (repeat' split)<;>simp_all
theorem SimE.retag {E:Env} {a:Act} {w:World} {t:Nat} {d:SV} (h:SimE P w0 M0 E s a w) (ht:t<s.n) (hv:SVok P M0 w E s.o (a.tmps.getD t undef) d):SimE P w0 M0 E (s.put t d) a w:=by
  refine ⟨h.size,h.defers,fun u e he=>?_,h.wok⟩
  simp only [St.put] at he ⊢
  rw [lookup_ins] at he
  split at he
  · rename_i hu
    subst hu
    simp only [Option.some.injEq] at he
    subst he
    exact ⟨ht,hv⟩
  · exact h.slots u e he
theorem imp_trunc {n t:Nat} (ht:s.s.lookup t=some (.vsl id 0 n)) (hl:s.o.lookup id=some (.arr e xs)) (hM0:∀ b,M0 b→b<w0.w.heap.size) (hnd:Nodup s.s=true):Imp P w0 M0 s ((s.upd true id (.arr e (xs.take n))).put t (.own id)):=by
  rintro a w ⟨E,hs⟩
  obtain ⟨htn,hsv⟩:=hs.slots t _ ht
  obtain ⟨hle,ad,len,cap,hc,hv⟩:=hsv e xs hl
  rw [Nat.zero_add] at hle
  obtain ⟨vals,⟨h1,hownF⟩,h2,h3⟩:=hs.wok.objs id _ hl
  have hv':a.tmps.getD t undef=.slice ad n cap:=by
    rw [hv];unfold sliced
    simp only [Nat.zero_mul,Nat.zero_add,Nat.sub_zero,Value.slice.injEq,and_true]
    cases ad with
    | none=>simp
    | some p=>split<;>simp [addr_add0]
  have hob:(Value.slice ad n cap).ownBlock=(E.cur id).ownBlock:=by rw [hc];cases ad<;>rfl
  have hmul:n*P.cellsOf e≤xs.length*P.cellsOf e:=Nat.mul_le_mul_right _ hle
  have hown:w.ownsRow 0 e (P.cellsOf e) (.slice ad n cap) (xs.take n).length (vals.take (n*P.cellsOf e)):=by
    obtain ⟨hvl,hform⟩:=h1
    refine ⟨by rw [List.length_take,List.length_take,Nat.min_eq_left (by omega),Nat.min_eq_left hle],?_⟩
    have hxl:(xs.take n).length=n:=by simp;omega
    rw [hxl]
    rcases hform with ⟨hv0,hn0⟩|⟨g,cap',cur,hv0,hgb,hh,hnc,hcm,hcs,htake⟩
    · rw [hv0] at hc
      simp only [Value.slice.injEq] at hc
      obtain ⟨rfl,rfl,rfl⟩:=hc
      exact .inl ⟨by rw [show n=0 by omega],by omega⟩
    · rw [hv0] at hc
      simp only [Value.slice.injEq] at hc
      obtain ⟨rfl,rfl,rfl⟩:=hc
      refine .inr ⟨g,cap',cur,rfl,hgb,hh,by omega,hcm,hcs,?_⟩
      rw [← htake,List.take_take,Nat.min_eq_left hmul]
  have h4:=hs.upd (E':={ E with cur:=fun i=>if i=id then .slice ad n cap else E.cur i }) (w':=w) (id:=id) (ob':=.arr e (xs.take n)) true (fun h=>by cases h) hnd hM0 (fun j hj=>⟨by simp [hj],rfl⟩) (.inr rfl) none ⟨rfl,rfl,rfl,Nat.le_refl _,fun _ _ _=>rfl⟩ (fun _=>Nat.le_refl _) (fun g hg=>by cases hg) (fun b hb=>.inl ⟨_,hl,by
      simp only [ownB,if_true] at hb ⊢
      rw [← hob];exact hb⟩) (fun rep _=>?_)
  · exact ⟨_,h4.retag (by simpa [St.upd] using htn) (by rw [hv'];exact sv_own_new)⟩
  · refine ⟨vals.take (n * P.cellsOf e), ⟨by simp only [if_true]; exact hown, fun b hb => hownF b (by simp only [if_true] at hb; rw [← hob]; exact hb)⟩, fun x hx => h2 x (List.mem_of_mem_take hx), fun j d hd => ?_⟩
    have hjx:(flat xs)[j]?=some d:=by
      rw [← List.take_append_drop n xs,flat_append,List.getElem?_append_left (List.getElem?_eq_some_iff.1 hd).1];exact hd
    have hjl:j<n*P.cellsOf e:=by
      have h4:=(List.getElem?_eq_some_iff.1 hd).1
      rw [flat_length _ (fun x hx=>h2 x (List.mem_of_mem_take hx)),List.length_take,Nat.min_eq_left hle] at h4
      exact h4
    have:=h3 j d hjx
    refine ⟨this.1,?_⟩
    have h6:=rep .pl _ _ this.2 (by simp)
    rw [List.getD_eq_getElem?_getD] at h6
    rw [List.getD_eq_getElem?_getD,List.getElem?_take,if_pos hjl]
    exact h6
theorem ol_trunc {ops:Array Oper} {Q:St→Prop} {l':List Oper} {n:Nat} (t:Nat) (ht:s.s.lookup t=some (.vsl id 0 n)) (hl:s.o.lookup id=some (.arr e xs)) (hM0:∀ b,M0 b→b<w0.w.heap.size) (hnd:Nodup s.s=true) (h:OpsL P w0 M0 ops Q l' ((s.upd true id (.arr e (xs.take n))).put t (.own id))):OpsL P w0 M0 ops Q l' s :=
  OpsL.imp (imp_trunc ht hl hM0 hnd) h
end
end Go.Am

namespace Go.Am
open Go.RowKit Go.ChangeShapes Go.WideShapes Go.Deep
section
variable {H:Type} {enc:TypeId×Value→H} {P:Program} {w:World} {base:Nat} {spare:Nat→Bool} {held:Bool}
theorem choose_list {α : Type} {p : Nat → α → Prop} (n : Nat) (h : ∀ i, i < n → ∃ a, p i a) : ∃ l : List α, l.length = n ∧ ∀ i a, l[i]? = some a → p i a := by
  induction n with
  | zero=>exact ⟨[],rfl,fun i a h=>by simp at h⟩
  | succ n ih =>
    obtain ⟨l,hl,hp⟩:=ih fun i hi=>h i (by omega)
    obtain ⟨a,ha⟩:=h n (by omega)
    refine ⟨l++[a],by simp [hl],fun i b hb=>?_⟩
    rcases Nat.lt_or_ge i n with hi|hi
    · rw [List.getElem?_append_left (by omega)] at hb
      exact hp i b hb
    · rw [List.getElem?_append_right (by omega)] at hb
      have:i-l.length=0:=by
        have:=(List.getElem?_eq_some_iff.1 hb).1
        simp at this;omega
      rw [this] at hb
      simp only [List.getElem?_cons_zero,Option.some.injEq] at hb
      subst hb
      rw [show i=n by omega];exact ha
theorem rep_slice {α : Type} {ad : α → AV} {ok : α → Prop} {t e : TypeId} (ht : P.underlying t = some (.slice e)) (hc : P.cellsOf e = 1) (hleaf : ∀ a, AV.leaf (ad a) = true ∧ AV.cells (ad a) = [ad a])
    (hel:∀ (n:Nat) (v:Value) x,DataW.trod enc P w base spare held n e [v]=some x→∃ a,ok a∧Rep w (fun _=>False) v (ad a)) {n:Nat} {v:Value} {x:DataW H×List MemPlace} (h:DataW.trod enc P w base spare held n t [v]=some x) :
    ∃ l:List α,(∀ a∈l,ok a)∧l.length≤9223372036854775807∧Rep w (fun _=>False) v (.sl (l.map ad)):=by
  rcases open_slice1 ht hc h with ⟨h1,_⟩|⟨a,len,cap,m,n',V,D,Pl,h1,hb,hl,hm,hmm,hx,hall⟩
  · simp only [List.cons.injEq, and_true] at h1
    subst h1
    exact ⟨[],fun a ha=>(by cases ha),(by simp),.sl none 0 0 [] 1 (fun _=>undef) rfl (Nat.le_refl _) (fun x hx=>by cases hx) (fun h=>absurd h (by omega)) (fun j d hd=>by simp [flat] at hd) (fun j d hd=>by simp [flat] at hd)⟩
  · simp only [List.cons.injEq, and_true] at h1
    subst h1
    have hlm:len≤m:=by rw [hmm];split<;>omega
    obtain ⟨l,hll,hlp⟩:=choose_list (p:=fun i a=>ok a∧Rep w (fun _=>False) (V i) (ad a)) len fun i hi=>hel n' (V i) _ (hall i (by omega)).2
    have hfl:flat (l.map ad)=l.map ad:=by
      clear hll hlp
      induction l with
      | nil=>rfl
      | cons a r ih=>simp only [flat,List.map_cons,List.flatMap_cons] at ih ⊢;rw [ih,(hleaf a).2];rfl
    refine ⟨l,fun a ha=>?_,by rw [hll];unfold maxLen at hm;omega,?_⟩
    · obtain ⟨i, hi, rfl⟩ := List.getElem_of_mem ha
      exact (hlp i _ (List.getElem?_eq_getElem hi)).1
    · refine .sl (some a) len cap _ 1 V (by simpa using hll) hl (fun x hx => ?_) (fun h0 => ?_) (fun j d hd => ?_) (fun j d hd => ?_)
      · obtain ⟨z, _, rfl⟩ := List.mem_map.1 hx
        rw [(hleaf z).2];rfl
      · have h3 := (hall 0 (by omega)).1
        have h4:w.cell? a=some (V 0):=by simpa [Addr.add] using h3
        obtain ⟨b,o,sp⟩:=a
        have hsp:sp=none:=World.cell?_spot h4
        subst hsp
        refine ⟨b,o,rfl,fun hf=>hf,World.block_lt_of_cell? w ⟨b,o,none⟩ h4,fun j hj=>?_⟩
        have:=(hall j (by omega)).1
        rwa [Addr.add_lit] at this
      · rw [hfl, List.getElem?_map, Option.map_eq_some_iff] at hd
        obtain ⟨z,_,rfl⟩:=hd
        exact (hleaf z).1
      · rw [hfl, List.getElem?_map, Option.map_eq_some_iff] at hd
        obtain ⟨z,hz,rfl⟩:=hd
        exact (hlp j z hz).2
theorem trod_i64 {e:TypeId} (he:P.underlying e=some (.int .i64)) (n:Nat) (v:Value) (x:DataW H×List MemPlace) (h:DataW.trod enc P w base spare held n e [v]=some x) :
    ∃ z:Int,(-9223372036854775808≤z∧z≤9223372036854775807)∧Rep w (fun _=>False) v (int z):=by
  obtain ⟨z,h1,hx,hw⟩:=DataW.trod_int he h
  simp only [List.cons.injEq,and_true] at h1
  subst h1
  exact ⟨z,bounds_i64 hw,.sc _ rfl⟩
theorem one_slice {t e:TypeId} {r:Reach} {b0:Nat} {v:Value} (ht:P.underlying t=some (.slice e)) (hval:Value.okWide P w r b0 t v):v.cells.toList=[v]:=by
  obtain ⟨a,len,cap,rfl⟩:=okWide_slice ht hval;rfl
theorem open_intsA {t e:TypeId} {r:Reach} {b0:Nat} {v:Value} {d:DataW H} {ps:List MemPlace} (ht:P.underlying t=some (.slice e)) (he:P.underlying e=some (.int .i64)) (hc:szOf P e=some 1) (hval:Value.okWide P w r b0 t v) (hd:DataW.Trod enc P w base spare held t v d ps) :
    ∃ l:List Int,(∀ a∈l,-9223372036854775808≤a∧a≤9223372036854775807)∧l.length≤9223372036854775807∧Rep w (fun _=>False) v (.sl (l.map int)):=by
  obtain ⟨n,hn⟩:=hd
  rw [one_slice ht hval] at hn
  exact rep_slice ht (cellsOf_of hc) (fun a=>⟨rfl,rfl⟩) (trod_i64 he) hn
theorem trodAll_stays (hl:laidOutB P=true) {W W':World} {sp':Nat→Bool}:∀ {ts:List TypeId} {vs:List Value} {ds:List (DataW H)} {ps:List MemPlace},(∀ t∈ts,P.readableRec t=true∧t<P.types.size) →
    DataW.TrodAll enc P W base (fun _=>true) true ts vs ds ps→(∀ p∈ps,W.sameAt W' p)→(∀ p∈ps,sp' p.block=true)→DataW.TrodAll enc P W' base sp' true ts vs ds ps
  | [],[],[],_,_,h,_,_=>h
  | t :: ts, v :: vs, d :: ds, _, ht, ⟨p, q, h1, h2, e⟩, hs, hp => ⟨p, q, WideElems.Trod_stays hl (ht t List.mem_cons_self).1 (ht t List.mem_cons_self).2 h1 (fun x hx => hs x (by rw [e]; exact List.mem_append_left _ hx)) (fun x hx => hp x (by rw [e]; exact List.mem_append_left _ hx)),
      trodAll_stays hl (fun t ht'=>ht t (List.mem_cons_of_mem _ ht')) h2 (fun x hx=>hs x (by rw [e];exact List.mem_append_right _ hx)) (fun x hx=>hp x (by rw [e];exact List.mem_append_right _ hx)),e⟩
theorem law_post {D:Prop} {f:Func} {fid:FuncId} {s:ChangeSpec} {W:World} {args:Array Value} {ds gs:List (DataW H)} {before:List MemPlace} {tb:TypeId} (hl:laidOutB P=true) (hrec:(f.params.toList.all fun t=>P.readableRec t&&decide (t<P.types.size))=true) (hres:f.resultTypes=#[tb]) (htb:P.underlying tb=some .bool)
    (hvars:s.vars=[]) (hfn:s.fn H (ds++[])={ results:=[.lit (.bool true)],args:=ds,vars:=[] }) (hW:DataW.Whole enc P f.params.toList s.vars false W args.toList ds gs before)
    (hcall:Calls P fid args W fun e W'=>∃ v,e=.returned v∧BelowD D W.heap.size W W'∧RVok P W' (fun b=>b<W.heap.size) (fun b=>b<W.heap.size) v (.p (bool true))) :
    Calls P fid args W fun e W'=>∃ v,e=.returned v∧s.post enc P f false true false false W args v W':=by
  have hW':=hW
  obtain ⟨p,q,hA,hV,hps,hfz,hnd⟩:=hW
  rw [hvars] at hV
  obtain ⟨hg,hq⟩:=trodVars_none hV
  subst hg hq
  refine hcall.mono fun e W' ⟨v,he,hb,hrv⟩=>⟨v,he,?_⟩
  have hv:v=.bool true:=by
    have h:Rep W' _ v (bool true):=hrv
    generalize hz:bool true=z at h
    cases h<;>simp_all
  subst hv
  have hlt:∀ x∈p,x.block<W.heap.size:=fun x hx=>hA.lt x hx
  have htrue:∀ (b:Nat) (sp:Nat→Bool) (hd:Bool),DataW.TrodAll enc P W' b sp hd f.resultTypes.toList ((Value.bool true).resultList f.resultTypes.size) (s.fn H (ds++[])).results []:=fun b sp hd=>by
    rw [hfn,hres];exact trodAll_cons_mk (shut_bool htb _) trodAll_mk0
  have hargs:∀ sp:Nat→Bool,(∀ x∈before,sp x.block=true)→DataW.TrodAll enc P W' 0 sp true f.params.toList args.toList (s.fn H (ds++[])).args p:=fun sp hsp=>by
    rw [hfn]
    refine trodAll_stays hl (fun t ht=>?_) hA (fun x hx=>hb.toBelow.same (hlt x hx)) (fun x hx=>hsp x (by rw [hps];exact List.mem_append_left _ hx))
    have:=List.all_eq_true.1 hrec t ht
    simpa using this
  have hold:∀ x∈before,(fun b=>decide (b<W.heap.size)) x.block=true:=fun x hx=>by simpa using hW'.lt x hx
  have hvr:∀ sp:Nat→Bool,DataW.TrodVars enc P W' sp s.vars (s.fn H (ds++[])).vars []:=fun sp=>by rw [hfn,hvars];rfl
  refine ⟨ds,[],before,[],p,[],hW',htrue _ _ _,hargs _ hold,hvr _,World.keptBut_mono (fun x hx=>hx) (hb.toBelow.frame _),fun _=>?_⟩
  refine ⟨ok_one (t:=tb) hres rfl (okWide_bool_mk htb _),_,_,([]++p)++[],⟨[]++p,[],trodAll_append (hargs _ (fun _ _=>rfl)) (htrue _ _ _),hvr _,rfl,?_,fun h=>by cases h⟩,?_⟩
  · intro b off hp
    have hp':MemPlace.cell b off∈before:=by rw [hps];simpa using hp
    exact (hb.toBelow.frozen (p:=⟨b,off,none⟩) (hW'.lt _ hp')).trans (hfz b off hp')
  · intro x hx _
    rw [hps];simpa using hx
end
def Reps (w:World) (M:Nat→Prop):List Value→List AV→Prop
  | [],[]=>True
  | v :: vs,d :: ds=>Rep w M v d∧Reps w M vs ds
  | _,_=>False
theorem Reps.get {w:World} {M:Nat→Prop}:∀ {vs:List Value} {ds:List AV},Reps w M vs ds→vs.length=ds.length∧∀ (j:Nat) d,ds[j]?=some d→Rep w M (vs.getD j undef) d
  | [],[],_=>⟨rfl,fun j d hd=>by simp at hd⟩
  | v :: vs, d :: ds, h => by
    obtain ⟨h1,h2⟩:=h
    obtain ⟨h3,h4⟩:=Reps.get h2
    refine ⟨by simp [h3],fun j e he=>?_⟩
    cases j with
    | zero=>simp only [List.getElem?_cons_zero,Option.some.injEq] at he;subst he;exact h1
    | succ j=>exact h4 j e (by simpa using he)
theorem CallF.use {P:Program} {f:FuncId} {ds:List AV} {r:RV} (h:CallF P f ds r) {w:World} {vs:List Value} (hr:Reps w (fun _=>False) vs ds) :
    Calls P f vs.toArray w fun e w'=>∃ v,e=.returned v∧Below w.heap.size w w'∧RVok P w' (fun b=>b<w.heap.size) (fun b=>b<w.heap.size) v r :=
  h.2 w vs hr.get.1 hr.get.2
end Go.Am

namespace Go.Am
open Go.RowKit
section
variable {P:Program} {w0:Fr} {M0:Nat→Prop} {s s':St}
def scopeQ (Q:Exit→St→Prop):Exit→St→Prop
  | .goto _,_=>False
  | e,s=>Q e s
theorem code_scope {c:Code} {Q:Exit→St→Prop} (h:CodeOk P w0 M0 c s (scopeQ Q)):CodeOk P w0 M0 (.scope c) s Q:=by
  intro a w hs
  refine wpF_scope_straight (wpF_mono (h a w hs) fun e a' w' ⟨s',h1,h2⟩=>?_)
  cases e<;>first|exact h1.elim|exact ⟨s',h1,h2⟩
theorem code_label {l:Nat} {Q:Exit→St→Prop} (h:Q .normal s):CodeOk P w0 M0 (.label l) s Q:=fun a w hs=>wpF_label ⟨s,h,hs⟩
section ops
variable {o:Oper} {ρ:Operand→Option SV} {ob:List (Nat×Ob)} {x y z:Operand} {T T' e:TypeId} {k q:IntKind} {a b:Int} {c:Cls}
theorem pure_shr (ho:o.op=.binOp .shr T x y T') (hx:scal ρ x=some (.int k a)) (hy:scal ρ y=some (.int q b)) (hb:0≤b):Pure P w0 M0 o ρ ob (.v .pl (.sc (.int k (a.fdiv (2 ^ (min b.toNat k.bits)))))) :=
  pure_bin ho hx hy rfl rfl (fun w=>by simp only [binOp_shr,Op.shift,if_neg (show ¬ b<0 by omega),Sem.run_pure])
theorem pure_toi {c:Cls} {a a':Int} (h:Pure P w0 M0 o ρ ob (.v c (.sc (.int k a)))) (e:a=a'):Pure P w0 M0 o ρ ob (.v c (.sc (.int k a'))):=by
  subst e;exact h
abbrev byteI (n:Int):AV:=.sc (.int .u8 n)
theorem pure_eqsl {va:Option Addr} {n m n' m':Nat} (ho:o.op=.binOp .eql T x y T') (hT:P.underlying T=some (.slice e)) (hx:scal ρ x=some (.slice va n m)) (hy:scal ρ y=some (.slice none n' m')):Pure P w0 M0 o ρ ob (.v .pl (bool va.isNone)) :=
  pure_value fun E w ev hw h=>by
    have hxv:ev x=.slice va n m:=scal_ok h hx
    have hyv:ev y=.slice none n' m':=scal_ok h hy
    exact ⟨.bool va.isNone,w,by simp [execOp,ho,hxv,hyv,eqGuard,Lib.run_eql_slice_nil w _ _ _ _ _ _ _ hT],.refl _ _,.sc _ rfl⟩
theorem pure_eqsl_ne {xs:List AV} {n' m':Nat} (ho:o.op=.binOp .eql T x y T') (hT:P.underlying T=some (.slice e)) (hx:viewAt ρ ob x=some (c,.sl xs)) (hy:scal ρ y=some (.slice none n' m')) (h0:0<xs.length):Pure P w0 M0 o ρ ob (.v .pl (bool false)) :=
  pure_value fun E w ev hw h=>by
    have hr:=viewAt_ok hw h hx
    have hyv:ev y=.slice none n' m':=scal_ok h hy
    generalize hq:ev x=q at hr
    cases hr with
    | sl a n cap _ k cv hn hc hk hb hl hr =>
      obtain ⟨b,of,rfl,_⟩:=hb (by omega)
      exact ⟨.bool false,w,by simp [execOp,ho,hq,hyv,eqGuard,Lib.run_eql_slice_nil w _ _ _ _ _ _ _ hT],.refl _ _,.sc _ rfl⟩
theorem src_sc0 {s:St} {y:Operand} {va:Option Addr} {m k:Nat} (hy:scal s.ev y=some (.slice va 0 m)):Src P w0 M0 s y k []:=by
  intro E a w hs
  have hv:a.eval y=.slice va 0 m:=scal_ok (ρ:=s.ev) (ob:=s.o) (fun x e hx=>hs.ev hx) hy
  exact ⟨va,0,m,[],hv,rfl,by simp,fun h=>absurd h (by omega),fun x hx=>(by cases hx),fun j d hd=>(by simp [flat] at hd)⟩
end ops
end
end Go.Am

