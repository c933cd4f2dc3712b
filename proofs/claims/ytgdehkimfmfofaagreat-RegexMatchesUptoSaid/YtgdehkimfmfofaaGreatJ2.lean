/-
  Code on abstract states: sequences,tests,blocks,loops,regions in order;a function's contract out of its body.
-/
import Derived.Test.YtgdehkimfmfofaaGreatJ0
import Derived.RangeFuncNested
import Derived.RangeFuncKeeps
import Derived.OrdersIn
import Derived.LoopN
import Derived.LoopNIn
import Derived.Scope
import Derived.Control
import Derived.Test.YtgdehkimfmfofaaGreatJ1
set_option linter.unusedVariables false
set_option linter.unusedSectionVars false
set_option linter.unusedSimpArgs false
namespace Go.Am
section
variable {P:Program} {Q:Exit→Act→World→Prop} {a:Act} {w:World} {l:Nat} {o:Oper} {K:Act→World→Prop}
theorem Calls.some' {f:FuncId} {args:Array Value} {R:Ending→World→Prop} (h:Calls P f args w R):∃ e w',R e w':=let ⟨e,w',_,r,_⟩:=h [];⟨e,w',r⟩
theorem Rows.some' {r:String} {args:Array Value} {R:Value→World→Prop} (h:Rows P r args w R):∃ v w',R v w':=let ⟨v,w',r,_⟩:=h default [];⟨v,w',r⟩
theorem put_defers (a:Act) (d:Option Tmp) (v:Value):(a.put d v).defers=a.defers:=by cases d<;>rfl
structure Calm (Q:Exit→Act→World→Prop):Prop where
  only:∀ e a w,Q e a w→e=.normal
  none:∀ e a w,Q e a w→a.defers=[]
theorem Calm.out (hQ:Calm Q) (h:LetsOut Q):False:=let ⟨_,_,h⟩:=h;nomatch hQ.only _ _ _ h
theorem Calm.panic (hQ:Calm Q) {ch} (h:Q (.panic ch) a w):False:=nomatch hQ.only _ _ _ h
theorem upon_defers (hQ:Calm Q) (hK:∀ a w,K a w→a.defers=[]) {r:Result Next} (h:o.upon P a K Q r):a.defers=[]:=by
  cases r with
  | ok x w' =>
    cases x with
    | value v=>exact (put_defers _ _ _).symm.trans (hK _ _ h)
    | skip=>exact (put_defers _ _ _).symm.trans (hK _ _ h)
    | defer d=>exact absurd ((put_defers _ _ _).symm.trans (hK _ _ h)) (by simp)
    | enter f args =>
      obtain ⟨e,w'',h⟩:=Calls.some' (show Calls P f args w' _ from h)
      cases e with
      | returned v=>exact (put_defers _ _ _).symm.trans (hK _ _ h)
      | panicked ch=>exact (hQ.panic h).elim
      | outgrown=>exact (hQ.out h).elim
    | row r args =>
      obtain ⟨v,w'',h⟩:=Rows.some' (show Rows P r args w' _ from h)
      exact (put_defers _ _ _).symm.trans (hK _ _ h)
    | _=>exact (show False from h).elim
  | halt x w' =>
    cases x with
    | panic v=>exact (hQ.panic h).elim
    | _=>exact (show False from h).elim
theorem calls_round {f:FuncId} {args:Array Value} {R:Ending→World→Prop} (h:Calls P f args w R):CallsIn (Fence.wide.inRound l) 0 P f args w R:=CallsIn.inRound l (callsIn_wide.2 h)
theorem rows_round {r:String} {args:Array Value} {R:Value→World→Prop} (h:Rows P r args w R):RowsIn (Fence.wide.inRound l) 0 P r args w R:=fun c cs _=>let ⟨v,w',r,s⟩:=h c cs;⟨v,w',r,stepsIn_wide.2 s⟩
theorem oper_round (hQ:Calm Q) (hK:∀ a w,K a w→a.defers=[]) (h:o.wp P a w K Q):o.wpIn (Fence.wide.inRound l) 0 P a w K Q:=by
  refine ⟨fun _ _=>trivial,?_⟩
  have hnd:∀ c,o.op≠.defer c:=fun c hc=>by
    unfold Oper.wp execOp at h
    rw [hc] at h
    have h':o.upon P a K Q (((resolve a.eval c o.type) >>= fun d=>pure (Next.defer d):Sem Next).run P w):=h
    rw [Sem.run_bind] at h'
    cases hr:(resolve a.eval c o.type).run P w with
    | ok d w' =>
      rw [hr] at h'
      have h2:K ({ a with defers:=d :: a.defers }.put o.dst undef) w':=h'
      exact absurd ((put_defers _ _ _).symm.trans (hK _ _ h2)) (by simp)
    | halt x w' =>
      rw [hr] at h'
      cases x with
      | panic v=>exact hQ.panic (show Q (.panic _) a w' from h')
      | _=>exact (show False from h')
  rw [Oper.semAt_eq _ _ _ hnd]
  unfold Oper.wp at h
  generalize (execOp a.eval o).run P w=r at *
  cases r with
  | ok x w' =>
    cases x with
    | enter f args=>exact ⟨fun hd=>by simp [Fence.wide] at hd,calls_round h⟩
    | row r args=>exact ⟨fun hd=>by simp [Fence.wide] at hd,rows_round h⟩
    | value v=>exact h
    | skip=>exact h
    | defer d=>exact h
    | _=>exact (show False from h).elim
  | halt x w' =>
    cases x with
    | panic v=>exact h
    | _=>exact (show False from h).elim
theorem wpOps_defers {ops : Array Oper} (hQ : Calm Q) : ∀ (r : List Nat) (a : Act) (w : World), wpOps P ops Q r a w → a.defers = []
  | [],a,w,h=>hQ.none _ _ _ h
  | i :: r, a, w, h => by
    unfold wpOps at h
    split at h
    · exact wpOps_defers hQ r a w h
    · split at h
      · rcases h with h | ⟨_, h⟩
        · exact upon_defers hQ (fun a w=>wpOps_defers hQ r a w) h
        · exact (hQ.out h).elim
      · exact (put_defers _ _ _).symm.trans (wpOps_defers hQ r _ w h)
theorem wpOp_defers {ops:Array Oper} (hQ:Calm Q) (hK:∀ a w,K a w→a.defers=[]) {i:Nat} (h:wpOp P ops Q i K a w):a.defers=[]:=by
  unfold wpOp at h
  split at h
  · exact hK _ _ h
  · split at h
    · rcases h with h | ⟨_, h⟩
      · exact upon_defers hQ hK h
      · exact (hQ.out h).elim
    · exact (put_defers _ _ _).symm.trans (hK _ _ h)
theorem wpOp_round {ops:Array Oper} (hQ:Calm Q) (hK:∀ a w,K a w→a.defers=[]) {i:Nat} (h:wpOp P ops Q i K a w):wpOpIn (Fence.wide.inRound l) 0 P ops Q i K a w:=by
  unfold wpOp at h
  unfold wpOpIn
  cases ho:ops[i]? with
  | none=>rw [ho] at h;exact h
  | some o =>
    rw [ho] at h
    dsimp only at h ⊢
    by_cases hw:Region.wanted o (yielded ops a.tmps)=true
    · rw [if_pos hw] at h ⊢
      rcases h with h|⟨_,h⟩
      · exact oper_round hQ hK h
      · exact (hQ.out h).elim
    · rw [if_neg hw] at h ⊢
      exact ⟨fun _ _=>trivial,h⟩
theorem ops_round {ops:Array Oper} (hQ:Calm Q):∀ (r:List Nat) (a:Act) (w:World),wpOps P ops Q r a w→wpOpsIn (Fence.wide.inRound l) 0 P ops Q r a w
  | [],a,w,h=>h
  | i :: r, a, w, h => by
    rw [wpOps_cons] at h
    rw [wpOpsIn_cons]
    exact wpOpIn_mono (fun a w=>ops_round hQ r a w) (wpOp_round hQ (fun a w=>wpOps_defers hQ r a w) h)
theorem wpAny_defers {ops:Array Oper} {md:Region.Mode} (hQ:Calm Q):∀ (n:Nat) (L:Array Bool) (a:Act) (w:World),wpAny P md ops Q n L a w→a.defers=[]
  | 0,L,a,w,h=>hQ.none _ _ _ h.2
  | n + 1, L, a, w, h => by
    cases hr:Region.ready md ops L with
    | nil=>exact hQ.none _ _ _ (h.1 hr)
    | cons i r=>exact wpOp_defers hQ (fun a w=>wpAny_defers hQ n _ a w) (h.2 i (by rw [hr];exact List.mem_cons_self))
theorem any_round {ops:Array Oper} {md:Region.Mode} (hQ:Calm Q):∀ (n:Nat) (L:Array Bool) (a:Act) (w:World),wpAny P md ops Q n L a w→wpAnyIn (Fence.wide.inRound l) 0 P md ops Q n L a w
  | 0,L,a,w,h=>h
  | n+1,L,a,w,h=>⟨h.1,fun i hi=>wpOpIn_mono (fun a w=>any_round hQ n _ a w) (wpOp_round hQ (fun a w=>wpAny_defers hQ n _ a w) (h.2 i hi))⟩
def wpF (P:Program):Md→Code→(Exit→Act→World→Prop)→Act→World→Prop
  | .round l,c,Q,a,w=>c.wpIn (Fence.wide.inRound l) 0 P Q a w
  | .plain,c,Q,a,w=>c.wp P Q a w
  | .marks,c,Q,a,w=>c.wp P Q a w
variable {r:Md} {c x y:Code} {Q':Exit→Act→World→Prop}
theorem wpF_mono (h:wpF P r c Q a w) (hq:∀ e a w,Q e a w→Q' e a w):wpF P r c Q' a w:=by
  cases r with
  | plain=>exact wp_mono h hq
  | marks=>exact wp_mono h hq
  | round l=>exact wpIn_mono h hq
theorem wpF_skip (h:Q .normal a w):wpF P r .skip Q a w:=by
  cases r with
  | plain=>exact wp_skip h
  | marks=>exact wp_skip h
  | round l=>exact wpIn_skip h
theorem wpF_label {i:Nat} (h:Q .normal a w):wpF P r (.label i) Q a w:=by
  cases r with
  | plain=>exact wp_label h
  | marks=>exact wp_label h
  | round l=>exact wpIn_label h
theorem wpF_ret (h:Q .ret a w):wpF P r .ret Q a w:=by
  cases r with
  | plain=>exact wp_ret h
  | marks=>exact wp_ret h
  | round l=>exact wpIn_ret h
theorem wpF_exit {i:Nat} (h:Q (.exit i) a w):wpF P r (.exit i) Q a w:=by
  cases r with
  | plain=>exact wp_exit h
  | marks=>exact wp_exit h
  | round l=>exact wpIn_exit h
theorem wpF_seq (h:wpF P r x (Exit.then (wpF P r y Q) Q) a w):wpF P r (.seq x y) Q a w:=by
  cases r with
  | plain=>exact wp_seq h
  | marks=>exact wp_seq h
  | round l=>exact wpIn_seq h
theorem wpF_block {i:Nat} (h:wpF P r c (Exit.inBlock i Q) a w):wpF P r (.block i c) Q a w:=by
  cases r with
  | plain=>exact wp_block h
  | marks=>exact wp_block h
  | round l=>exact wpIn_block h
theorem wpF_cond_true {q:Operand} (hc:a.eval q=.bool true) (h:wpF P r x Q a w):wpF P r (.cond q x y) Q a w:=by
  cases r with
  | plain=>exact wp_cond_true hc h
  | marks=>exact wp_cond_true hc h
  | round l=>exact wpIn_cond_true hc h
theorem wpF_cond_false {q:Operand} (hc:a.eval q=.bool false) (h:wpF P r y Q a w):wpF P r (.cond q x y) Q a w:=by
  cases r with
  | plain=>exact wp_cond_false hc h
  | marks=>exact wp_cond_false hc h
  | round l=>exact wpIn_cond_false hc h
theorem wpF_region {i:Nat} {ops:Array Oper} (hQ:∀ l,r=.round l→Calm Q) (h:wpOps P ops Q (List.range ops.size) a w):wpF P r (.region i ops false) Q a w:=by
  cases r with
  | plain=>exact wp_region h
  | marks=>exact wp_region h
  | round l=>exact wpIn_region (ops_round (hQ l rfl) _ _ _ h)
theorem wpF_region_any {i:Nat} {ops:Array Oper} (hm:P.follows .mixedOrders=true) (hQ:∀ l,r=.round l→Calm Q) (h:wpAny P .any ops Q ops.size (Array.replicate ops.size false) a { w with drawn:=w.drawn+1 }):wpF P r (.region i ops true) Q a w:=by
  cases r with
  | plain=>exact wp_region_any hm h
  | marks=>exact wp_region_any hm h
  | round l=>exact wpIn_region_any hm (any_round (hQ l rfl) _ _ _ _ h)
def roundsF (P:Program) (r:Md) (c:Code) (Q:Exit→Act→World→Prop):Nat→Act→World→Prop
  | 0,_,_=>False
  | m+1,a,w=>wpF P r c (Exit.then (roundsF P r c Q m) Q) a w
theorem roundsF_succ {m:Nat}:roundsF P r c Q (m+1) a w=wpF P r c (Exit.then (roundsF P r c Q m) Q) a w:=rfl
theorem wpF_loop_rounds (m:Nat) (h:roundsF P r c Q m a w):wpF P r (.loop c) Q a w:=by
  have calm:(∀ c Q a w,wpF P r c Q a w↔c.wp P Q a w)→wpF P r (.loop c) Q a w:=fun hr=>by
    refine (hr _ _ _ _).2 (wp_loop_rounds m ?_)
    have:∀ m a w,roundsF P r c Q m a w→Code.rounds P c Q m a w:=fun m=>by
      induction m with
      | zero=>exact fun a w h=>h
      | succ m ih=>exact fun a w h=>wp_mono ((hr _ _ _ _).1 h) fun e a w h=>by cases e<;>first|exact ih _ _ h|exact h
    exact this m a w h
  cases r with
  | plain=>exact calm fun _ _ _ _=>Iff.rfl
  | marks=>exact calm fun _ _ _ _=>Iff.rfl
  | round l =>
    refine wpIn_loop_rounds m ?_
    have:∀ m a w,roundsF P (.round l) c Q m a w→Code.roundsIn (Fence.wide.inRound l) 0 P c Q m a w:=fun m=>by
      induction m with
      | zero=>exact fun a w h=>h
      | succ m ih=>exact fun a w h=>wpIn_mono (show c.wpIn _ _ P _ a w from h) fun e a w h=>by cases e<;>first|exact ih _ _ h|exact h
    exact this m a w h
theorem stepR_scope {b:Frame} {k:List Item} {cs:List Frame}:step P (lone (b.atR a (.code (.scope c) :: k)) cs w)=.next (lone (b.atR a (.code c :: .inScope c :: k)) cs w) :=
  step_lone_go (by simp [stepG,stepG.exec,Frame.atR])
theorem stepR_inScope {b:Frame} {k:List Item} {cs:List Frame}:step P (lone (b.atR a (.inScope c :: k)) cs w)=.next (lone (b.atR a k) cs w) :=
  step_lone_go (by simp [stepG,stepG.exec,Frame.atR])
theorem wpIn_scope_straight {F:Fence} {n:Nat} (h:c.wpIn F n P (Exit.noGoto Q) a w):(Code.scope c).wpIn F n P Q a w:=by
  intro b k cs hro hb hr
  have h0:(lone (b.atR a (.code (.scope c) :: k)) cs w).fenced P F:=fenced_calm hb hr rfl
  obtain ⟨e,a₁,w₁,hq,harr⟩:=h b (.inScope c :: k) cs hro hb hr
  cases e with
  | normal=>exact ⟨.normal,a₁,w₁,hq,.head h0 stepR_scope (StepsIn.trans harr (.one (fenced_calm hb hr rfl) stepR_inScope))⟩
  | exit id=>exact ⟨.exit id,a₁,w₁,hq,.of_steps (.one h0 stepR_scope) (show ArrivesIn _ P _ b k cs (.exit id) a₁ w₁ from ⟨fun k' hk=>harr.1 k' (by simp [exitTo,hk]),fun hr hk=>harr.2 hr (by simp [exitTo,hk])⟩)⟩
  | goto l=>exact hq.elim
  | ret=>exact ⟨.ret,a₁,w₁,hq,.of_steps (.one h0 stepR_scope) (show ArrivesIn _ P _ b k cs .ret a₁ w₁ from harr)⟩
  | panic ch=>exact ⟨.panic ch,a₁,w₁,hq,.of_steps (.one h0 stepR_scope) (show ArrivesIn _ P _ b k cs (.panic ch) a₁ w₁ from harr)⟩
  | outgrown=>exact ⟨.outgrown,a₁,w₁,hq,.of_steps (.one h0 stepR_scope) (show ArrivesIn _ P _ b k cs .outgrown a₁ w₁ from harr)⟩
theorem wpF_scope_straight (h:wpF P r c (Exit.noGoto Q) a w):wpF P r (.scope c) Q a w:=by
  cases r with
  | plain=>exact wp_scope_straight h
  | marks=>exact wp_scope_straight h
  | round l=>exact wpIn_scope_straight h
end
end Go.Am

namespace Go.Am
open Go.RowKit

section
variable {P:Program} {w0:Fr} {M0:Nat→Prop}

def guardOf (ops : Array Oper) (ρ : Operand → Option SV) (o : Oper) : Option Bool :=
  match o.guard with
  | none=>some true
  | some (j, want) => match (ops[j]?).bind (·.dst) with
    | none=>none
    | some t => match ρ (.tmp t) with
      | some (.v _ (.sc (.bool b)))=>some (b == want)
      | some (.v _ (.tup []))=>some false
      | _=>none
theorem SimE.getTmp {E:Env} {s:St} {a:Act} {w:World} (h:SimE P w0 M0 E s a w) {t:Nat} {d:SV} (ht:s.s.lookup t=some d):a.tmps[t]?=some (a.tmps.getD t undef):=by
  have h1:=(h.slots t d ht).1
  have h2:=h.size
  rw [Array.getD_eq_getD_getElem?,Array.getElem?_eq_getElem (by omega)];rfl
theorem guard_ok {ops : Array Oper} {E : Env} {s : St} {a : Act} {w : World} (h : SimE P w0 M0 E s a w) {o : Oper} {g : Bool} (hg : guardOf ops s.ev o = some g) :
    Region.wanted o (yielded ops a.tmps)=g:=by
  unfold guardOf at hg
  unfold Region.wanted
  split at hg
  · rename_i h0
    simp only [Option.some.injEq] at hg
    simp [h0,hg]
  · rename_i j want h0
    simp only [h0]
    split at hg
    · cases hg
    · rename_i t ht
      split at hg
      · rename_i c b hb
        simp only [Option.some.injEq] at hg
        subst hg
        have h1:=(h.slots t _ hb).2
        simp only [SVok] at h1
        have h2:=h.getTmp hb
        have h3:a.tmps.getD t undef=.bool b:=by generalize a.tmps.getD t undef=z at h1;cases h1;rfl
        rw [h3] at h2
        simp only [yielded,ht,Option.bind_some,h2]
        cases b<;>cases want<;>rfl
      · rename_i c hb
        simp only [Option.some.injEq] at hg
        subst hg
        have h1:=(h.slots t _ hb).2
        simp only [SVok] at h1
        have h2:=h.getTmp hb
        have h3:∃ vs,a.tmps.getD t undef=.tuple vs:=by
          generalize a.tmps.getD t undef=z at h1;cases h1;exact ⟨_,rfl⟩
        obtain ⟨vs,h3⟩:=h3
        rw [h3] at h2
        simp only [yielded,ht,Option.bind_some,h2]
        cases want<;>rfl
      · cases hg

def Imp (P:Program) (w0:Fr) (M0:Nat→Prop) (s s':St):Prop:=∀ a w,Sim P w0 M0 s a w→Sim P w0 M0 s' a w
theorem Imp.refl (s:St):Imp P w0 M0 s s:=fun _ _ h=>h
theorem Imp.trans {s s' s'':St} (h:Imp P w0 M0 s s') (h':Imp P w0 M0 s' s''):Imp P w0 M0 s s'':=fun a w hs=>h' a w (h a w hs)

def OpsOk (P:Program) (w0:Fr) (M0:Nat→Prop) (ops:Array Oper) (l:List Nat) (s:St) (Q:St→Prop):Prop :=
  ∀ a w,Sim P w0 M0 s a w→wpOps P ops (fun e a' w'=>e=.normal∧∃ s',Q s'∧Sim P w0 M0 s' a' w') l a w
def CodeOk (P:Program) (w0:Fr) (M0:Nat→Prop) (c:Code) (s:St) (Q:Exit→St→Prop):Prop :=
  ∀ a w,Sim P w0 M0 s a w→wpF P w0.md c (fun e a' w'=>∃ s',Q e s'∧Sim P w0 M0 s' a' w') a w
theorem calm_sim {Q:St→Prop}:∀ l,w0.md=.round l→Calm (fun e a' w'=>e=.normal∧∃ s',Q s'∧Sim P w0 M0 s' a' w'):=fun l hl=>⟨fun e a w h=>h.1,fun e a w ⟨_,s',_,E,hs⟩=>by
  have h:=hs.defers
  unfold Marks at h
  rw [hl] at h
  exact h⟩

section ops
variable {ops:Array Oper} {l:List Nat} {s s':St} {Q:St→Prop} {i:Nat} {o:Oper}
theorem ops_nil (h:Q s):OpsOk P w0 M0 ops [] s Q:=fun a w hs=>⟨rfl,s,h,hs⟩
theorem ops_step (hi:ops[i]?=some o) (hg:guardOf ops s.ev o=some true) (h:Step P w0 M0 o s s') (hr:OpsOk P w0 M0 ops l s' Q):OpsOk P w0 M0 ops (i :: l) s Q:=by
  intro a w hs
  obtain ⟨E,hE⟩:=hs
  simp only [wpOps,hi,guard_ok hE hg,if_true]
  exact .inl (Oper.wp_mono (fun a' w' h'=>hr a' w' h') (h a w _ ⟨E,hE⟩))
theorem sv_undef {w:World} {E:Env} {ob:List (Nat×Ob)}:SVok P M0 w E ob undef (.v .pl (.tup [])):=.tup [] [] rfl (fun j d hd=>by simp at hd)
theorem ops_skip {t:Nat} (hi:ops[i]?=some o) (hg:guardOf ops s.ev o=some false) (ht:o.dst=some t) (hn:t<s.n) (hr:OpsOk P w0 M0 ops l (s.put t (.v .pl (.tup []))) Q) :
    OpsOk P w0 M0 ops (i :: l) s Q:=by
  intro a w hs
  obtain ⟨E,hE⟩:=hs
  simp only [wpOps,hi,guard_ok hE hg,Bool.false_eq_true,if_false,ht]
  exact hr _ _ ⟨E,hE.put hn sv_undef⟩
end ops

section code
variable {c x y:Code} {s s':St} {Q:Exit→St→Prop}
theorem CodeOk.imp (hi:Imp P w0 M0 s s') (h:CodeOk P w0 M0 c s' Q):CodeOk P w0 M0 c s Q:=fun a w hs=>h a w (hi a w hs)
theorem CodeOk.mono {Q':Exit→St→Prop} (h:CodeOk P w0 M0 c s Q) (hq:∀ e s',Q e s'→Q' e s'):CodeOk P w0 M0 c s Q' :=
  fun a w hs=>wpF_mono (h a w hs) fun e a' w' ⟨s',h1,h2⟩=>⟨s',hq _ _ h1,h2⟩
theorem code_skip (h:Q .normal s):CodeOk P w0 M0 .skip s Q:=fun a w hs=>wpF_skip ⟨s,h,hs⟩
theorem code_ret (h:Q .ret s):CodeOk P w0 M0 .ret s Q:=fun a w hs=>wpF_ret ⟨s,h,hs⟩
theorem code_exit {id:Nat} (h:Q (.exit id) s):CodeOk P w0 M0 (.exit id) s Q:=fun a w hs=>wpF_exit ⟨s,h,hs⟩
def seqQ (P:Program) (w0:Fr) (M0:Nat→Prop) (y:Code) (Q:Exit→St→Prop):Exit→St→Prop
  | .normal,s=>CodeOk P w0 M0 y s Q
  | e,s=>Q e s
theorem code_seq (h:CodeOk P w0 M0 x s (seqQ P w0 M0 y Q)):CodeOk P w0 M0 (.seq x y) s Q:=by
  intro a w hs
  refine wpF_seq (wpF_mono (h a w hs) fun e a' w' ⟨s',h1,h2⟩=>?_)
  cases e<;>simp only [Exit.then,seqQ] at h1 ⊢<;>first|exact h1 _ _ h2|exact ⟨s',h1,h2⟩
def blockQ (id:Nat) (Q:Exit→St→Prop):Exit→St→Prop
  | .exit i,s=>if i=id then Q .normal s else Q (.exit i) s
  | e,s=>Q e s
theorem code_block {id:Nat} (h:CodeOk P w0 M0 c s (blockQ id Q)):CodeOk P w0 M0 (.block id c) s Q:=by
  intro a w hs
  refine wpF_block (wpF_mono (h a w hs) fun e a' w' ⟨s',h1,h2⟩=>?_)
  cases e<;>simp only [Exit.inBlock,blockQ] at h1 ⊢<;>first|exact ⟨s',h1,h2⟩|(split at h1<;>simp_all<;>exact ⟨s',h1,h2⟩)
theorem code_cond {t:Nat} {b:Bool} (hb:scal s.ev (.tmp t)=some (.bool b)) (ht:b=true→CodeOk P w0 M0 x s Q) (hf:b=false→CodeOk P w0 M0 y s Q) :
    CodeOk P w0 M0 (.cond (.tmp t) x y) s Q:=by
  rintro a w ⟨E,hs⟩
  have hv:a.eval (.tmp t)=.bool b:=scal_ok (ρ:=s.ev) (x:=.tmp t) (ob:=s.o) (ev:=a.eval) (fun x e hx=>hs.ev hx) hb
  cases b
  · exact wpF_cond_false hv (hf rfl a w ⟨E,hs⟩)
  · exact wpF_cond_true hv (ht rfl a w ⟨E,hs⟩)
theorem code_region {id:Nat} {ops:Array Oper} (l:List Nat) (hl:List.range ops.size=l) (h:OpsOk P w0 M0 ops l s (Q .normal)):CodeOk P w0 M0 (.region id ops false) s Q:=by
  intro a w hs
  subst hl
  refine wpF_mono (wpF_region calm_sim (h a w hs)) fun e a' w' ⟨he,s',h1,h2⟩=>?_
  subst he
  exact ⟨s',h1,h2⟩
def loopQ (P:Program) (w0:Fr) (M0:Nat→Prop) (I:St→Prop) (μ:St→Nat) (m:Nat) (Q:Exit→St→Prop):Exit→St→Prop
  | .normal,s=>∃ s',Imp P w0 M0 s s'∧I s'∧μ s'<m
  | e,s=>Q e s
end code

theorem imp_slots {s s':St} (hn:s'.n=s.n) (ho:s'.o=s.o) (h:∀ t d,s'.s.lookup t=some d→s.s.lookup t=some d):Imp P w0 M0 s s':=by
  rintro a w ⟨E,hs⟩
  obtain ⟨n',sl',o'⟩:=s'
  simp only at hn ho h
  subst hn;subst ho
  exact ⟨E,hs.size,hs.defers,fun t d ht=>hs.slots t d (h t d ht),hs.wok⟩
theorem lookup_filter {α : Type} (f : Nat → Bool) (l : List (Nat × α)) (t : Nat) (d : α) (h : (l.filter (fun p => f p.1)).lookup t = some d) : l.lookup t = some d := by
  induction l with
  | nil=>simp at h
  | cons p r ih =>
    obtain ⟨u,e⟩:=p
    rw [List.filter_cons] at h
    rw [lookup_cons']
    split at h
    · rw [lookup_cons'] at h
      split at h
      · rename_i h1;rw [if_pos h1];exact h
      · rename_i h1;rw [if_neg h1];exact ih h
    · rename_i hf
      have:=ih h
      by_cases h1:t=u
      · exfalso
        subst h1
        -- t is filtered out everywhere
        have:∀ r:List (Nat×α),(r.filter (fun p=>f p.1)).lookup t=none:=by
          intro r
          induction r with
          | nil=>rfl
          | cons q r ihr =>
            obtain ⟨x,y⟩:=q
            rw [List.filter_cons]
            split
            · rename_i hx
              rw [lookup_cons']
              split
              · rename_i he;subst he;exact absurd hx hf
              · exact ihr
            · exact ihr
        rw [this] at h;cases h
      · rw [if_neg h1];exact this
def St.keep (s:St) (f:Nat→Bool):St:={ s with s:=s.s.filter (fun p=>f p.1) }
def St.enterS (n:Nat) (ds:List SV) (o:List (Nat×Ob)):St:={ n:=n,s:=ds.zipIdx.map (fun p=>(p.2,p.1)),o:=o }
theorem lookup_enterS (ds:List SV):∀ (k t:Nat) (d:SV),((ds.zipIdx k).map (fun p=>(p.2,p.1))).lookup t=some d→k≤t∧ds[t-k]?=some d:=by
  induction ds with
  | nil=>intro k t d h;simp at h
  | cons x r ih =>
    intro k t d h
    rw [List.zipIdx_cons,List.map_cons,lookup_cons'] at h
    split at h
    · rename_i he
      simp only at he
      subst he
      simp only [Option.some.injEq] at h
      exact ⟨Nat.le_refl _,by simp [h]⟩
    · obtain ⟨h1, h2⟩ := ih (k + 1) t d h
      refine ⟨by omega,?_⟩
      have:t-k=(t-(k+1))+1:=by omega
      rw [this,List.getElem?_cons_succ];exact h2
def St.enter (n:Nat) (c:Cls) (ds:List AV):St:={ n:=n,s:=ds.zipIdx.map (fun p=>(p.2,.v c p.1)),o:=[] }
theorem enter_eq (n:Nat) (c:Cls) (ds:List AV):St.enter n c ds=St.enterS n (ds.map (.v c)) []:=by
  unfold St.enter St.enterS
  congr 1
  have:∀ k,(ds.zipIdx k).map (fun p=>(p.2,SV.v c p.1))=((ds.map (SV.v c)).zipIdx k).map (fun p=>(p.2,p.1)):=by
    induction ds with
    | nil=>intro k;rfl
    | cons x r ih=>intro k;rw [List.zipIdx_cons,List.map_cons,List.map_cons,List.zipIdx_cons,List.map_cons,ih]
  exact this 0

def retOf (ob : List (Nat × Ob)) : SV → Option RV
  | .v .pl (.sc (.slice none 0 0))=>some (.p (.sl []))
  | .v .pl d=>some (.p d)
  | .v _ (.sc u)=>some (.p (.sc u))
  | .own id => match ob.lookup id with
    | some (.arr e xs)=>some (.fresh e xs)
    | _=>none
  | .omap id => match ob.lookup id with
    | some (.mp ks vs)=>some (.p (.mp ks vs))
    | _=>none
  | _=>none
theorem retOf_ok {E:Env} {ob:List (Nat×Ob)} {w:World} {v:Value} {s:SV} {r:RV} (hw:WOk P w0 M0 E ob w) (h:SVok P M0 w E ob v s) (hr:retOf ob s=some r):RVok P w M0 w0.K v r:=by
  unfold retOf at hr
  split at hr
  · simp only [Option.some.injEq] at hr
    subst hr
    cases h
    exact .sl none 0 0 [] 0 (fun _=>undef) rfl (Nat.le_refl _) (by simp) (fun h=>absurd h (by omega)) (fun j d hd=>by simp [flat] at hd) (fun j d hd=>by simp [flat] at hd)
  · simp only [Option.some.injEq] at hr
    subst hr
    exact Rep.weak h (fun b hb=>.inl hb)
  · simp only [Option.some.injEq] at hr
    subst hr
    cases h
    exact .sc _ ‹_›
  · rename_i id
    split at hr
    · rename_i e xs hl
      simp only [Option.some.injEq] at hr
      subst hr
      rw [h e xs hl]
      obtain ⟨vals,h1,h2,h3⟩:=hw.objs id _ hl
      refine ⟨vals,⟨h1.1,fun b hb=>(h1.2 b hb).1⟩,h2,fun j d hd=>⟨(h3 j d hd).1,(h3 j d hd).2.weak fun b hb=>?_⟩⟩
      rcases hb with hb|hb
      · exact .inl hb
      · exact .inr ⟨id,_,hl,hb⟩
    · cases hr
  · rename_i id
    split at hr
    · rename_i ks vs hl
      simp only [Option.some.injEq] at hr
      subst hr
      rw [h ks vs hl]
      have hlt:=((hw.objs id _ hl).own_range rfl).2
      obtain ⟨es,clock,h1,h2,h3,h4,h5⟩:=hw.objs id _ hl
      exact .mp _ es clock ks vs h2.2 hlt h1 h3 h4 fun j d hd=>(h5 j d hd).weak fun b hb=>.inl hb
    · cases hr
  · cases hr

def Fn1 (P : Program) (f : FuncId) (n t : Nat) (c : Code) : Prop := ∃ fn, P.funcs[f]? = some fn ∧ fn.body = some c ∧ fn.ntmps = n ∧ fn.results = #[.tmp t] ∧ (fn.name == "runtime.NumGoroutine") = false
theorem Fn1.callable {f n t:Nat} {c:Code} (h:Fn1 P f n t c):Callable P f:=by
  obtain ⟨fn,h1,h2,_,_,h5⟩:=h
  exact ⟨fn,h1,h5,by rw [h2];rfl⟩
def endQ (t:Nat) (r:RV):Exit→St→Prop
  | .normal,s|.ret,s=>(s.s.lookup t).bind (retOf s.o)=some r
  | _,_=>False
theorem ObOk.setrd {w0:Fr} (r r':Md) {E:Env} {o:List (Nat×Ob)} {w:World} {id:Nat} {ob:Ob} (h:ObOk P { w0 with md:=r } M0 w E o id ob):ObOk P { w0 with md:=r' } M0 w E o id ob:=by
  cases ob with
  | arr e xs=>exact h
  | box e cs=>exact h
  | mp ks vs=>exact h
  | nar e cs ln =>
    obtain ⟨n,vals,h1,h2,h3,h4,h5⟩:=h
    exact ⟨n,vals,h1,h2,h3,h4.go (LnTo.refl _ _) (fun _ _=>rfl) (fun _ _ h=>h) (fun _ _ h=>h),h5⟩
  | nmp ks cs ln =>
    obtain ⟨es,clock,h1,h2,h3,h4,h5,h6,h7⟩:=h
    exact ⟨es,clock,h1,h2,h3,h4,h5,h6.go (LnTo.refl _ _) (fun _ _=>rfl) (fun _ _ h=>h) (fun _ _ h=>h),h7⟩
theorem WOk.setrd {w0:Fr} (r r':Md) {E:Env} {o:List (Nat×Ob)} {w:World} (h:WOk P { w0 with md:=r } M0 E o w):WOk P { w0 with md:=r' } M0 E o w :=
  ⟨fun id ob ho=>(h.objs id ob ho).setrd r r',h.disj,h.below,h.pins⟩
theorem WOk.plain {E:Env} {o:List (Nat×Ob)} {w:World} (h:WOk P w0 M0 E o w):WOk P w0.plain M0 E o w:=WOk.setrd (w0:=w0) w0.md .plain h
theorem WOk.unplain {E:Env} {o:List (Nat×Ob)} {w:World} (h:WOk P w0.plain M0 E o w):WOk P w0 M0 E o w:=WOk.setrd (w0:=w0) .plain w0.md h
theorem SimE.unplain {E:Env} {s:St} {a:Act} {w:World} (h:SimE P w0.plain M0 E s a w):SimE P w0 M0 E s a w:=⟨h.size,.nil h.defers,h.slots,h.wok.unplain⟩
theorem calls_core {f n t:Nat} {c:Code} (hf:Fn1 P f n t c) {args:List SV} {o:List (Nat×Ob)} {R:St→Prop} {Q:Exit→St→Prop} {E:Env} {w:World} (hn:args.length≤n) (vs:List Value) (hv:vs.length=args.length)
    (hw:WOk P w0 M0 E o w) (hr:∀ (j:Nat) d,args[j]?=some d→SVok P M0 w E o (vs.getD j undef) d)
    (h:CodeOk P w0.plain M0 c (St.enterS n args o) Q) (hQ:∀ e s',Q e s'→(e=.normal∨e=.ret)∧R s') :
    Calls P f vs.toArray w fun e w'=>∃ v E' s',e=.returned v∧R s'∧WOk P w0 M0 E' s'.o w'∧∀ d,s'.s.lookup t=some d→SVok P M0 w' E' s'.o v d:=by
  obtain ⟨fn,h1,h2,h3,h4,h5⟩:=hf
  have hE:SimE P w0.plain M0 E (St.enterS n args o) { tmps:=vs.toArray++Array.replicate (fn.ntmps-vs.toArray.size) undef,defers:=[] } w:=by
    refine ⟨by simp [St.enterS,h3];omega,rfl,fun t d ht=>?_,hw.plain⟩
    obtain ⟨_,he⟩:=lookup_enterS args 0 t d ht
    rw [Nat.sub_zero] at he
    have hlt:t<args.length:=(List.getElem?_eq_some_iff.1 he).1
    refine ⟨by simp [St.enterS];omega,?_⟩
    have:=hr t d he
    have hget:(vs.toArray++Array.replicate (fn.ntmps-vs.toArray.size) undef).getD t undef=vs.getD t undef:=by
      rw [Array.getD_eq_getD_getElem?,Array.getElem?_append_left (by simp;omega),List.getD_eq_getElem?_getD];simp
    rw [hget];exact this
  refine calls_of_wp h1 h2 (wp_mono (show Code.wp P c _ _ _ from h _ _ ⟨_,hE⟩) fun e a' w' ⟨s',hq,E',hs⟩=>?_)
  have hdf:a'.defers=[]:=hs.defers
  have hs:=hs.unplain
  obtain ⟨he,hR⟩:=hQ e s' hq
  have fin:a'.defers=[]∧∃ v,(results fn a'.tmps).run P w'=.ok v w'∧∃ v_1 E'_1 s'_1,Ending.returned v=Ending.returned v_1∧R s'_1∧WOk P w0 M0 E'_1 s'_1.o w'∧∀ d,s'_1.s.lookup t=some d→SVok P M0 w' E'_1 s'_1.o v_1 d :=
    ⟨hdf,a'.tmps.getD t undef,by simp [results,h4],_,E',s',rfl,hR,hs.wok,fun d hd=>(hs.slots t d hd).2⟩
  rcases he with rfl|rfl
  · exact fin
  · exact fin
theorem wok_nil {D:Prop} {w:World}:WOk P (Fr.allD D w) M0 ⟨fun _=>undef,fun _=>0,fun _ _=>undef⟩ [] w :=
  ⟨fun id ob ho=>by simp at ho,fun id ob id' ob' b ho=>by simp at ho,.refl _ _,fun x hx=>by cases hx⟩
theorem owned_nil {E:Env}:owned E []=fun _=>False:=by
  funext b;apply propext;constructor
  · rintro ⟨id,ob,h,_⟩;simp at h
  · intro h;exact h.elim
theorem calls_of_code {D:Prop} {f n t:Nat} {c:Code} (hf:Fn1 P f n t c) {ds:List AV} {r:RV} {cl:Cls} {w:World} (hn:ds.length≤n) (vs:List Value) (hv:vs.length=ds.length)
    (hr:∀ (j:Nat) d,ds[j]?=some d→Rep w (clsM M0 (fun _=>False) cl) (vs.getD j undef) d)
    (h:CodeOk P (Fr.allD D w) M0 c (St.enter n cl ds) (endQ t r)) :
    Calls P f vs.toArray w fun e w'=>∃ v,e=.returned v∧BelowD D w.heap.size w w'∧RVok P w' M0 (fun b=>b<w.heap.size) v r:=by
  rw [enter_eq] at h
  refine (calls_core (R:=fun s'=>(s'.s.lookup t).bind (retOf s'.o)=some r) hf (by simpa using hn) vs (by simpa using hv) wok_nil (fun j d hd=>?_) h (fun e s' hq=>?_)).mono fun e w' ⟨v,E',s',he,hR,hw,hsv⟩=>?_
  · rw [List.getElem?_map, Option.map_eq_some_iff] at hd
    obtain ⟨a,ha,rfl⟩:=hd
    have:=hr j a ha
    simp only [SVok,owned_nil]
    exact this
  · cases e with
    | normal=>exact ⟨.inl rfl,hq⟩
    | ret=>exact ⟨.inr rfl,hq⟩
    | exit _=>exact hq.elim
    | goto _=>exact hq.elim
    | panic _=>exact hq.elim
    | outgrown=>exact hq.elim
  · refine ⟨v, he, hw.below.below, ?_⟩
    cases hl:s'.s.lookup t with
    | none=>rw [hl] at hR;cases hR
    | some sv =>
      rw [hl] at hR
      exact retOf_ok hw (hsv sv hl) hR
theorem callF_of_code {f n t:Nat} {c:Code} (hf:Fn1 P f n t c) {ds:List AV} {r:RV} (hn:ds.length≤n)
    (h:∀ (w0:Fr) (M0:Nat→Prop),(∀ b,M0 b→b<w0.w.heap.size)→CodeOk P w0 M0 c (St.enter n .mx ds) (endQ t r)):CallF P f ds r :=
  ⟨hf.callable,fun w vs hv hr=>calls_of_code (cl:=.mx) hf hn vs hv (fun j d hd=>hr j d hd) (h (Fr.all w) (fun b=>b<w.heap.size) (fun b hb=>hb))⟩
end
end Go.Am

