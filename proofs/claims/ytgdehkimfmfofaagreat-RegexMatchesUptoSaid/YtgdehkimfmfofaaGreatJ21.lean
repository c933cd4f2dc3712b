/-
  Three calls one after another in a drawn region,each of which turns one array and hands it on under another number.
-/
import Derived.Test.YtgdehkimfmfofaaGreatJ19
import Derived.Test.YtgdehkimfmfofaaGreatJ12
import Derived.Test.YtgdehkimfmfofaaGreatJ18
import Derived.Lib.AppendStr
import Derived.Test.YtgdehkimfmfofaaGreatJ16
import Derived.Shelf.SlicesG.Reverse
import Derived.Maps.Keyed
import Derived.Test.YtgdehkimfmfofaaGreatJ8
set_option linter.unusedVariables false
set_option linter.unusedSectionVars false
set_option linter.unusedSimpArgs false
namespace Go.Wb
open Go.Am
inductive Star (P:List Int→Prop):List Int→Prop
  | nil:Star P []
  | cons {u v:List Int}:P u→Star P v→Star P (u++v)
mutual
def sem:Rx→List Int→Prop
  | .mk k s l=>fun w=>if k=1 then w=[] else if k=2 then ∃ a,w=[a]∧a∈s else if k=3 then semQ l w else if k=4 then semA l w else if k=5 then semK l w else False
def semQ:List Rx→List Int→Prop
  | []=>fun w=>w=[]
  | x :: l=>fun w=>∃ u v,w=u++v∧sem x u∧semQ l v
def semA:List Rx→List Int→Prop
  | []=>fun _=>False
  | x :: l=>fun w=>sem x w∨semA l w
def semK:List Rx→List Int→Prop
  | []=>fun w=>w=[]
  | x :: _=>fun w=>Star (sem x) w
end
theorem sem_eq (r:Rx) (w:List Int):sem r w=(if r.kind=1 then w=[] else if r.kind=2 then ∃ a,w=[a]∧a∈r.syms else if r.kind=3 then semQ r.kids w else if r.kind=4 then semA r.kids w else
    if r.kind=5 then semK r.kids w else False):=by cases r with|mk k s l=>rw [sem];rfl
theorem sem_0 {r:Rx} (h:r.kind=0) (w:List Int):¬ sem r w:=by rw [sem_eq,if_neg (by omega),if_neg (by omega),if_neg (by omega),if_neg (by omega),if_neg (by omega)];exact id
theorem sem_1 {r:Rx} (h:r.kind=1) (w:List Int):sem r w↔w=[]:=by rw [sem_eq,if_pos h]
theorem sem_2 {r:Rx} (h:r.kind=2) (w:List Int):sem r w↔∃ a,w=[a]∧a∈r.syms:=by rw [sem_eq,if_neg (by omega),if_pos h]
theorem sem_3 {r:Rx} (h:r.kind=3) (w:List Int):sem r w↔semQ r.kids w:=by rw [sem_eq,if_neg (by omega),if_neg (by omega),if_pos h]
theorem sem_4 {r:Rx} (h:r.kind=4) (w:List Int):sem r w↔semA r.kids w:=by rw [sem_eq,if_neg (by omega),if_neg (by omega),if_neg (by omega),if_pos h]
theorem sem_5 {r:Rx} (h:r.kind=5) (w:List Int):sem r w↔semK r.kids w:=by rw [sem_eq,if_neg (by omega),if_neg (by omega),if_neg (by omega),if_neg (by omega),if_pos h]
theorem semQ_nil (w:List Int):semQ [] w↔w=[]:=by rw [semQ]
theorem semQ_cons (x:Rx) (l:List Rx) (w:List Int):semQ (x :: l) w↔∃ u v,w=u++v∧sem x u∧semQ l v:=by rw [semQ]
theorem semA_mem {w:List Int}:∀ {l:List Rx},semA l w↔∃ x∈l,sem x w
  | []=>by rw [semA];simp
  | x :: l=>by rw [semA];show sem x w∨semA l w↔_;rw [semA_mem];simp
theorem semK_one (x:Rx) (w:List Int):semK [x] w↔Star (sem x) w:=by rw [semK]
theorem semQ_one (x:Rx) (w:List Int):semQ [x] w↔sem x w:=by
  rw [semQ_cons]
  constructor
  · rintro ⟨u, v, rfl, hu, hv⟩
    rw [semQ_nil] at hv
    rw [hv,List.append_nil];exact hu
  · exact fun h=>⟨w,[],(List.append_nil w).symm,h,(semQ_nil _).2 rfl⟩
theorem semQ_app:∀ {l m:List Rx} {w:List Int},semQ (l++m) w↔∃ u v,w=u++v∧semQ l u∧semQ m v
  | [], m, w => by
    rw [List.nil_append]
    constructor
    · exact fun h=>⟨[],w,rfl,(semQ_nil _).2 rfl,h⟩
    · rintro ⟨u, v, rfl, hu, hv⟩
      rw [semQ_nil] at hu
      rw [hu];exact hv
  | x :: l, m, w => by
    rw [List.cons_append,semQ_cons]
    constructor
    · rintro ⟨u, v, rfl, hu, hv⟩
      obtain ⟨u',v',rfl,hu',hv'⟩:=semQ_app.1 hv
      exact ⟨u++u',v',(List.append_assoc _ _ _).symm,(semQ_cons _ _ _).2 ⟨u,u',rfl,hu,hu'⟩,hv'⟩
    · rintro ⟨u, v, rfl, hu, hv⟩
      obtain ⟨u',v',rfl,hu',hv'⟩:=(semQ_cons _ _ _).1 hu
      exact ⟨u',v'++v,List.append_assoc _ _ _,hu',semQ_app.2 ⟨v',v,rfl,hv',hv⟩⟩
theorem Star.mono {P Q:List Int→Prop} (h:∀ w,P w→Star Q w) {w:List Int} (hw:Star P w):Star Q w:=by
  have app:∀ {u v:List Int},Star Q u→Star Q v→Star Q (u++v):=fun {u v} hu hv=>by
    induction hu with
    | nil=>exact hv
    | cons h1 _ ih=>rw [List.append_assoc];exact .cons h1 ih
  induction hw with
  | nil=>exact .nil
  | cons h1 _ ih=>exact app (h _ h1) ih
theorem Star.one {P:List Int→Prop} {w:List Int} (h:P w):Star P w:=by
  have:=Star.cons h .nil
  rwa [List.append_nil] at this
theorem Star.congr {P Q:List Int→Prop} (h:∀ w,P w↔Q w) (w:List Int):Star P w↔Star Q w :=
  ⟨Star.mono fun w hw=>.one ((h w).1 hw),Star.mono fun w hw=>.one ((h w).2 hw)⟩
theorem Star.none {P:List Int→Prop} (h:∀ w,P w→w=[]) {w:List Int} (hw:Star P w):w=[]:=by
  induction hw with
  | nil=>rfl
  | cons h1 _ ih=>rw [h _ h1,ih];rfl
theorem Star.head {P : List Int → Prop} {a : Int} {w : List Int} : Star P (a :: w) ↔ ∃ u v, w = u ++ v ∧ P (a :: u) ∧ Star P v := by
  constructor
  · intro h
    have:∀ z,Star P z→z=a :: w→∃ u v,w=u++v∧P (a :: u)∧Star P v:=by
      intro z hz
      induction hz with
      | nil=>intro e;cases e
      | @cons u v h1 h2 ih =>
        intro e
        match u,e with
        | [],e=>exact ih e
        | b :: u, e =>
          obtain ⟨rfl,e2⟩:=List.cons.inj e
          exact ⟨u,v,e2.symm,h1,h2⟩
    exact this _ h rfl
  · rintro ⟨u, v, rfl, h1, h2⟩
    exact .cons (u:=a :: u) h1 h2
theorem Star.rev {P Q:List Int→Prop} (h:∀ w,P w→Q w.reverse) {w:List Int} (hw:Star P w):Star Q w.reverse:=by
  have app:∀ {u v:List Int},Star Q u→Star Q v→Star Q (u++v):=fun {u v} hu hv=>by
    induction hu with
    | nil=>exact hv
    | cons h1 _ ih=>rw [List.append_assoc];exact .cons h1 ih
  induction hw with
  | nil=>exact .nil
  | cons h1 _ ih=>rw [List.reverse_append];exact app ih (.one (h _ h1))
theorem acc_sem (x : Rx) : accR x = true ↔ sem x [] := by
  refine rx_ind (P:=fun x=>accR x=true↔sem x []) (fun x ih=>?_) x
  rw [accR_eq]
  by_cases h3:x.kind=3
  · rw [if_pos h3, sem_3 h3]
    have:∀ l:List Rx,(∀ x∈l,accR x=true↔sem x [])→(l.all accR=true↔semQ l []):=by
      intro l
      induction l with
      | nil=>intro _;rw [semQ_nil];simp
      | cons y l ihl =>
        intro h
        have h1:=ihl fun z hz=>h z (List.mem_cons_of_mem _ hz)
        rw [List.all_cons,Bool.and_eq_true,h y List.mem_cons_self,h1,semQ_cons]
        constructor
        · exact fun h=>⟨[],[],rfl,h.1,h.2⟩
        · rintro ⟨u, v, e, hu, hv⟩
          have e':=List.append_eq_nil_iff.1 e.symm
          rw [e'.1] at hu
          rw [e'.2] at hv
          exact ⟨hu,hv⟩
    exact this _ ih
  · rw [if_neg h3]
    by_cases h4:x.kind=4
    · rw [if_pos h4, sem_4 h4, semA_mem, List.any_eq_true]
      exact exists_congr fun y=>and_congr_right fun hy=>ih y hy
    · rw [if_neg h4, decide_eq_true_eq]
      by_cases h1:x.kind=1
      · rw [sem_1 h1];exact ⟨fun _=>rfl,fun _=>.inl h1⟩
      · by_cases h5 : x.kind = 5
        · rw [sem_5 h5]
          refine ⟨fun _=>?_,fun _=>.inr h5⟩
          match x.kids with
          | []=>rw [semK]
          | y :: l=>rw [semK];exact .nil
        · refine ⟨fun h => absurd h (by omega), fun h => ?_⟩
          by_cases h2:x.kind=2
          · obtain ⟨a, e, _⟩ := (sem_2 h2 _).1 h
            cases e
          · rw [sem_eq,if_neg h1,if_neg h2,if_neg h3,if_neg h4,if_neg h5] at h;cases h
theorem sem_seqF (x:Rx) (w:List Int):semQ (seqF x) w↔sem x w:=by
  by_cases h3:x.kind=3
  · rw [seqF_3 h3,sem_3 h3]
  · by_cases h1 : x.kind = 1
    · rw [seqF_1 h1,semQ_nil,sem_1 h1]
    · rw [seqF_x h3 h1,semQ_one]
theorem sem_seqL:∀ (l:List Rx) (w:List Int),semQ (seqL l) w↔semQ l w
  | [],w=>Iff.rfl
  | x :: l, w => by
    have e:seqL (x :: l)=seqF x++seqL l:=rfl
    rw [e,semQ_app,semQ_cons]
    exact exists_congr fun u=>exists_congr fun v=>and_congr_right fun _=>and_congr (sem_seqF x u) (sem_seqL l v)
theorem semQ_all {l:List Rx} {w:List Int} (h:semQ l w):∀ x∈l,∃ u,sem x u:=by
  induction l generalizing w with
  | nil=>intro x hx;cases hx
  | cons y l ih =>
    obtain ⟨u,v,rfl,hu,hv⟩:=(semQ_cons _ _ _).1 h
    intro x hx
    rcases List.mem_cons.1 hx with rfl|hx
    · exact ⟨u,hu⟩
    · exact ih hv x hx
theorem sem_seqN (l:List Rx) (w:List Int):sem (seqN l) w↔semQ l w:=by
  unfold seqN
  by_cases h:l.any (fun x=>decide (x.kind=0))=true
  · rw [if_pos h]
    obtain ⟨x,hx,h0⟩:=List.any_eq_true.1 h
    refine ⟨fun q=>absurd q (sem_0 rfl w),fun q=>?_⟩
    obtain ⟨u,hu⟩:=semQ_all q x hx
    exact absurd hu (sem_0 (of_decide_eq_true h0) u)
  · rw [if_neg h, ← sem_seqL l]
    generalize seqL l=s
    match s with
    | []=>exact (sem_1 (r:=emptyRx) rfl w).trans (semQ_nil w).symm
    | [y]=>exact (semQ_one y w).symm
    | y :: z :: s=>rw [seqE_2 (by simp) (by simp)];exact sem_3 rfl w
theorem sem_altE (k:List Rx) (w:List Int):sem (altE k) w↔∃ x∈k,sem x w:=by
  match k with
  | []=>exact ⟨fun h=>absurd h (sem_0 rfl w),fun ⟨x,hx,_⟩=>by cases hx⟩
  | [y]=>exact ⟨fun h=>⟨y,List.mem_cons_self,h⟩,fun ⟨x,hx,h⟩=>by rw [List.mem_singleton.1 hx] at h;exact h⟩
  | y :: z :: k=>rw [altE_2 (by simp) (by simp)];exact (sem_4 rfl w).trans semA_mem
theorem sem_altF (x:Rx) (w:List Int):(∃ y∈altF x,sem y w)↔sem x w:=by
  by_cases h4:x.kind=4
  · rw [altF_4 h4,sem_4 h4,semA_mem]
  · rw [altF_x h4]
    exact ⟨fun ⟨y,hy,h⟩=>by rw [List.mem_singleton.1 hy] at h;exact h,fun h=>⟨x,List.mem_cons_self,h⟩⟩
theorem sem_altN {l : List Rx} (w : List Int) : sem (altN l) w ↔ ∃ x ∈ l, sem x w := by
  have hC : (∃ x ∈ altC (altD l), sem x w) ↔ ∃ x ∈ altD l, sem x w := by
    by_cases h:1<(altD l).length∧((altD l).getD 0 default).kind=1∧((altD l).drop 1).any accR=true
    · rw [altC_t h.1 h.2.1 h.2.2]
      constructor
      · exact fun ⟨x,hx,hs⟩=>⟨x,List.mem_of_mem_drop hx,hs⟩
      · rintro ⟨x, hx, hs⟩
        by_cases e:x=(altD l).getD 0 default
        · obtain ⟨y, hy, ha⟩ := List.any_eq_true.1 h.2.2
          rw [e,sem_1 h.2.1] at hs
          exact ⟨y,hy,by rw [hs];exact (acc_sem y).1 ha⟩
        · exact ⟨x,mem_drop1 hx e,hs⟩
    · rw [altC_f h]
  unfold altN
  rw [sem_altE,hC]
  have hL:(∃ x∈altL l,sem x w)↔∃ x∈l,sem x w:=by
    constructor
    · rintro ⟨x, hx, hs⟩
      obtain ⟨y,hy,hxy⟩:=altL_mem.1 hx
      exact ⟨y,hy,(sem_altF y w).1 ⟨x,hxy,hs⟩⟩
    · rintro ⟨y, hy, hs⟩
      obtain ⟨x,hx,hs⟩:=(sem_altF y w).2 hs
      exact ⟨x,altL_mem.2 ⟨y,hy,hx⟩,hs⟩
  rw [← hL]
  constructor
  · rintro ⟨x, hx, hs⟩
    have h1:=altD_mem hx
    rw [altM_mem] at h1
    rcases h1 with h1|⟨_,rfl⟩
    · exact ⟨x,(altK_mem.1 h1).1,hs⟩
    · obtain ⟨a, ha, hm⟩ := (sem_2 rfl w).1 hs
      have hm':a∈uniI (altS l):=hm
      obtain ⟨y,hy,hk,hz⟩:=altS_mem.1 (uniI_mem.1 hm')
      exact ⟨y,hy,(sem_2 hk w).2 ⟨a,ha,hz⟩⟩
  · rintro ⟨x, hx, hs⟩
    by_cases h0:x.kind=0
    · exact absurd hs (sem_0 h0 w)
    · by_cases h2 : x.kind = 2
      · obtain ⟨a, ha, hm⟩ := (sem_2 h2 w).1 hs
        have hz:a∈altS l:=altS_mem.2 ⟨x,hx,h2,hm⟩
        refine ⟨.mk 2 (uniI (altS l)) [],?_,(sem_2 rfl w).2 ⟨a,ha,uniI_mem.2 hz⟩⟩
        rw [altD_uni,uniR_mem,altM_mem]
        exact .inr ⟨List.length_pos_iff_exists_mem.2 ⟨a,hz⟩,rfl⟩
      · refine ⟨x, ?_, hs⟩
        rw [altD_uni,uniR_mem,altM_mem]
        exact .inl (altK_mem.2 ⟨hx,h0,h2⟩)
theorem sem_starN {x : Rx} (h : Nf x) (w : List Int) : sem (starN x) w ↔ Star (sem x) w := by
  by_cases h01:x.kind=0∨x.kind=1
  · rw [starN_e h01, sem_1 rfl]
    refine ⟨fun e=>by rw [e];exact .nil,fun q=>Star.none (fun u hu=>?_) q⟩
    rcases h01 with k|k
    · exact absurd hu (sem_0 k u)
    · exact (sem_1 k u).1 hu
  · by_cases h5 : x.kind = 5
    · obtain ⟨y, e, _⟩ := h.k5 h5
      rw [starN_5 h5]
      have hy:∀ w,sem x w↔Star (sem y) w:=fun w=>by rw [e];exact (sem_5 rfl w).trans (semK_one y w)
      exact ⟨Star.one,fun q=>(hy w).2 (Star.mono (fun u hu=>(hy u).1 hu) q)⟩
    · rw [starN_x h01 h5]
      refine (sem_5 rfl w).trans ((semK_one _ w).trans ?_)
      by_cases q:x.kind=4∧(x.kids.getD 0 default).kind=1
      · obtain ⟨e, h2, hn, hk4, hs, ht, ha⟩ := h.k4 q.1
        have hx:∀ u,sem x u↔∃ y∈x.kids,sem y u:=fun u=>(sem_4 q.1 u).trans semA_mem
        have hd:∀ u,(∃ y∈x.kids,sem y u)↔u=[]∨∃ y∈x.kids.drop 1,sem y u:=fun u=>by
          constructor
          · rintro ⟨y, hy, hs⟩
            by_cases e:y=x.kids.getD 0 default
            · rw [e,sem_1 q.2] at hs;exact .inl hs
            · exact .inr ⟨y,mem_drop1 hy e,hs⟩
          · rintro (rfl | ⟨y, hy, hs⟩)
            · exact ⟨_,kid_mem (i:=0) (by omega),(sem_1 q.2 _).2 rfl⟩
            · exact ⟨y,List.mem_of_mem_drop hy,hs⟩
        have hB:∀ u,sem (starB x) u↔∃ y∈x.kids.drop 1,sem y u:=fun u=>by
          by_cases q2:x.kids.length=2
          · rw [starB_2 q q2]
            have hl:x.kids.drop 1=[x.kids.getD 1 default]:=by rw [drop_cons (by omega),List.drop_of_length_le (by omega)]
            rw [hl]
            exact ⟨fun h=>⟨_,List.mem_cons_self,h⟩,fun ⟨y,hy,h⟩=>by rw [List.mem_singleton.1 hy] at h;exact h⟩
          · rw [starB_m q q2]
            exact (sem_4 (r:=.mk x.kind x.syms (x.kids.drop 1)) q.1 u).trans semA_mem
        constructor
        · exact Star.mono fun u hu=>.one ((hx u).2 ((hd u).2 (.inr ((hB u).1 hu))))
        · refine Star.mono fun u hu => ?_
          rcases (hd u).1 ((hx u).1 hu) with rfl|hu
          · exact .nil
          · exact .one ((hB u).2 hu)
      · rw [starB_n q]
theorem sem_dR (a : Int) {x : Rx} (h : Nf x) : ∀ w, sem (dR a x) w ↔ sem x (a :: w) := by
  induction h with
  | none=>exact fun w=>by rw [dR_x (by decide) (fun h=>by cases h),dL_x (by decide) (by decide),altN_nil];exact ⟨fun q=>absurd q (sem_0 rfl w),fun q=>absurd q (sem_0 rfl _)⟩
  | empty=>exact fun w=>by rw [dR_x (by decide) (fun h=>by cases h),dL_x (by decide) (by decide),altN_nil];exact ⟨fun q=>absurd q (sem_0 rfl w),fun q=>absurd ((sem_1 rfl _).1 q) (by simp)⟩
  | @set s h =>
    intro w
    rw [dR_eq,if_pos (show (Rx.mk 2 s []).kind=2 from rfl),sem_2 (r:=.mk 2 s []) rfl]
    show sem (if a∈s then _ else _) w↔∃ b,_∧b∈s
    by_cases q:a∈s
    · rw [if_pos q, sem_1 rfl]
      constructor
      · rintro rfl;exact ⟨a,rfl,q⟩
      · rintro ⟨b,e,_⟩;exact (List.cons.inj e).2
    · rw [if_neg q]
      refine ⟨fun h=>absurd h (sem_0 rfl w),fun ⟨b,e,hb⟩=>?_⟩
      rw [(List.cons.inj e).1] at q;exact absurd hb q
  | @seq l h2 hn hk ih =>
    intro w
    rw [dR_x (by simp [Rx.kind]) (by simp [Rx.kind]),dL_3 rfl,sem_altN,sem_3 rfl]
    show (∃ x∈dRq a l,_)↔semQ l _
    clear h2 hk
    induction l with
    | nil =>
      rw [dRq,semQ_nil]
      exact ⟨fun ⟨x,hx,_⟩=>(by cases hx),fun e=>(by cases e)⟩
    | cons x l ihl =>
      have h1:=ihl (fun y hy=>hn y (List.mem_cons_of_mem _ hy)) fun y hy=>ih y (List.mem_cons_of_mem _ hy)
      have h2:sem (seqN [dR a x,seqN l]) w↔∃ u v,w=u++v∧sem x (a :: u)∧semQ l v:=by
        rw [sem_seqN,semQ_cons]
        refine exists_congr fun u=>exists_congr fun v=>and_congr_right fun _=>and_congr (ih x List.mem_cons_self u) ?_
        rw [semQ_one,sem_seqN]
      rw [dRq,semQ_cons]
      constructor
      · rintro ⟨y, hy, hs⟩
        rcases List.mem_cons.1 hy with rfl|hy
        · obtain ⟨u, v, rfl, hu, hv⟩ := h2.1 hs
          exact ⟨a :: u,v,rfl,hu,hv⟩
        · split at hy
          · next ha=>exact ⟨[],a :: w,rfl,(acc_sem x).1 ha,h1.1 ⟨y,hy,hs⟩⟩
          · cases hy
      · rintro ⟨u, v, e, hu, hv⟩
        match u,e with
        | [], e =>
          have e':v=a :: w:=e.symm
          rw [e'] at hv
          obtain ⟨y,hy,hs⟩:=h1.2 hv
          exact ⟨y,List.mem_cons_of_mem _ (by rw [if_pos ((acc_sem x).2 hu)];exact hy),hs⟩
        | b :: u, e =>
          obtain ⟨rfl,e2⟩:=List.cons.inj e
          exact ⟨_,List.mem_cons_self,h2.2 ⟨u,v,e2,hu,hv⟩⟩
  | @alt l h2 hn hk h4 h5 h6 ih =>
    intro w
    rw [dR_x (by simp [Rx.kind]) (by simp [Rx.kind]),dL_4 rfl,sem_altN,sem_4 rfl,semA_mem]
    show (∃ x∈l.map (dR a),_)↔∃ x∈l,_
    constructor
    · rintro ⟨y, hy, hs⟩
      obtain ⟨z,hz,rfl⟩:=List.mem_map.1 hy
      exact ⟨z,hz,(ih z hz w).1 hs⟩
    · rintro ⟨z, hz, hs⟩
      exact ⟨_,List.mem_map.2 ⟨z,hz,rfl⟩,(ih z hz w).2 hs⟩
  | @star y hn hk h4 ih =>
    intro w
    have hs:∀ w,sem (.mk 5 [] [y]) w↔Star (sem y) w:=fun w=>(sem_5 rfl w).trans (semK_one y w)
    rw [dR_5k rfl (by show 0<1;decide),sem_seqN,semQ_cons,hs,Star.head]
    refine exists_congr fun u=>exists_congr fun v=>and_congr_right fun _=>and_congr (ih u) ?_
    rw [semQ_one,hs]
theorem sem_Dv {x:Rx} (h:Nf x):∀ u w,sem (Dv x u) w↔sem x (u++w):=fun u=>by
  refine snoc_ind (P:=fun u=>∀ w,sem (Dv x u) w↔sem x (u++w)) (fun w=>Iff.rfl) (fun u b ih w=>?_) u
  rw [Dv_snoc,sem_dR b (Dv_nf h u),ih,List.append_assoc];rfl
theorem acc_Dv {x:Rx} (h:Nf x) (u:List Int):accR (Dv x u)=true↔sem x u:=by rw [acc_sem,sem_Dv h,List.append_nil]
theorem semQ_map {f:Rx→Rx}:∀ {l:List Rx},(∀ x∈l,∀ w,sem (f x) w↔sem x w)→∀ w,semQ (l.map f) w↔semQ l w
  | [],_,w=>Iff.rfl
  | x :: l, h, w => by
    rw [List.map_cons,semQ_cons,semQ_cons]
    exact exists_congr fun u=>exists_congr fun v=>and_congr_right fun _=>and_congr (h x List.mem_cons_self u) (semQ_map (fun y hy=>h y (List.mem_cons_of_mem _ hy)) v)
theorem semQ_rev {f:Rx→Rx}:∀ {l:List Rx},(∀ x∈l,∀ w,sem (f x) w↔sem x w.reverse)→∀ w,semQ (l.map f).reverse w↔semQ l w.reverse
  | [], _, w => by
    rw [List.map_nil,List.reverse_nil,semQ_nil,semQ_nil,List.reverse_eq_nil_iff]
  | x :: l, h, w => by
    rw [List.map_cons,List.reverse_cons,semQ_app,semQ_cons]
    have ih:=semQ_rev (l:=l) fun y hy=>h y (List.mem_cons_of_mem _ hy)
    constructor
    · rintro ⟨u, v, rfl, hu, hv⟩
      rw [semQ_one] at hv
      exact ⟨v.reverse,u.reverse,List.reverse_append,(h x List.mem_cons_self v).1 hv,(ih u).1 hu⟩
    · rintro ⟨u, v, e, hu, hv⟩
      refine ⟨v.reverse,u.reverse,?_,(ih _).2 (by rw [List.reverse_reverse];exact hv),(semQ_one _ _).2 ((h x List.mem_cons_self _).2 (by rw [List.reverse_reverse];exact hu))⟩
      rw [← List.reverse_append,← e,List.reverse_reverse]
theorem sem_build (r : Rx) : validR r = true → (∀ w, sem (buildR false r) w ↔ sem r w) ∧ ∀ w, sem (buildR true r) w ↔ sem r w.reverse := by
  refine rx_ind (P:=fun r=>validR r=true→(∀ w,sem (buildR false r) w↔sem r w)∧∀ w,sem (buildR true r) w↔sem r w.reverse) (fun r ih hv=>?_) r
  have hf:∀ x∈r.kids,∀ w,sem (buildR false x) w↔sem x w:=fun x hx=>(ih x hx (valid_kids hv x hx)).1
  have ht:∀ x∈r.kids,∀ w,sem (buildR true x) w↔sem x w.reverse:=fun x hx=>(ih x hx (valid_kids hv x hx)).2
  by_cases h3:r.kind=3
  · exact ⟨fun w=>by rw [buildR_3f h3,sem_seqN,sem_3 h3,semQ_map hf],fun w=>by rw [buildR_3t h3,sem_seqN,sem_3 h3,semQ_rev ht]⟩
  · by_cases h4 : r.kind = 4
    · have hm : ∀ t w, (∃ x ∈ r.kids.map (buildR t), sem x w) ↔ ∃ x ∈ r.kids, sem (buildR t x) w := fun t w =>
        ⟨fun ⟨y,hy,hs⟩=>by obtain ⟨z,hz,rfl⟩:=List.mem_map.1 hy;exact ⟨z,hz,hs⟩,fun ⟨z,hz,hs⟩=>⟨_,List.mem_map.2 ⟨z,hz,rfl⟩,hs⟩⟩
      exact ⟨fun w=>by rw [buildR_4 h4,sem_altN,hm,sem_4 h4,semA_mem];exact exists_congr fun x=>and_congr_right fun hx=>hf x hx w,
        fun w=>by rw [buildR_4 h4,sem_altN,hm,sem_4 h4,semA_mem];exact exists_congr fun x=>and_congr_right fun hx=>ht x hx w⟩
    · by_cases h5 : r.kind = 5
      · obtain ⟨y, hy⟩ := List.length_eq_one_iff.1 (valid_5 hv h5).2
        have hm:y∈r.kids:=by rw [hy];exact List.mem_cons_self
        have hb:=fun t=>build_nf t y (valid_kids hv y hm)
        have e:∀ t,(r.kids.map (buildR t)).getD 0 default=buildR t y:=fun t=>by rw [hy];rfl
        refine ⟨fun w=>?_,fun w=>?_⟩
        · rw [buildR_5 h5, e, sem_starN (hb _), sem_5 h5, hy, semK_one]
          exact Star.congr (hf y hm) w
        · rw [buildR_5 h5, e, sem_starN (hb _), sem_5 h5, hy, semK_one]
          constructor
          · exact Star.rev fun u hu=>(ht y hm u).1 hu
          · intro q
            have:=Star.rev (Q:=sem (buildR true y)) (fun u hu=>(ht y hm _).2 (by rw [List.reverse_reverse];exact hu)) q
            rwa [List.reverse_reverse] at this
      · have hk := valid_kinds hv
        have e:∀ t w,sem (buildR t r) w↔sem r w:=fun t w=>by
          rw [buildR_x h3 h4 h5]
          by_cases h1:r.kind=1
          · rw [sem_1 h1,sem_1 (r:=.mk r.kind r.syms []) h1]
          · by_cases h2 : r.kind = 2
            · rw [sem_2 h2,sem_2 (r:=.mk r.kind r.syms []) h2];exact Iff.rfl
            · exact ⟨fun q=>absurd q (sem_0 (r:=.mk r.kind r.syms []) (by show r.kind=0;omega) w),fun q=>absurd q (sem_0 (by omega) _)⟩
        refine ⟨e false,fun w=>(e true w).trans ?_⟩
        by_cases h1:r.kind=1
        · rw [sem_1 h1,sem_1 h1,List.reverse_eq_nil_iff]
        · by_cases h2 : r.kind = 2
          · rw [sem_2 h2, sem_2 h2]
            refine exists_congr fun a=>and_congr_left fun _=>?_
            constructor
            · rintro rfl;rfl
            · intro q
              have:=congrArg List.reverse q
              rwa [List.reverse_reverse] at this
          · exact ⟨fun q=>absurd q (sem_0 (by omega) w),fun q=>absurd q (sem_0 (by omega) _)⟩
theorem mtR_Dv (r:Rx) (w:List Int) (k:Nat):mtR r w k=Dv (simR r) (w.take k):=rfl
theorem match_Dv (r:Rx) (w:List Int):matchR r w=accR (Dv (simR r) w):=by unfold matchR;rw [mtR_Dv,List.take_length]
theorem match_sem {r:Rx} (hv:validR r=true) (w:List Int):matchR r w=true↔sem r w:=by
  rw [match_Dv,acc_Dv (simR_nf r)]
  unfold simR;rw [if_pos hv];exact (sem_build r hv).1 w
end Go.Wb

namespace Go.Am
open Go.RowKit
section
variable {P:Program} {w0:Fr} {M0:Nat→Prop}
def FnM3 (P : Program) (f : FuncId) (n t u : Nat) (T : TypeId) (k v : Nat) (c : Code) : Prop := ∃ fn, P.funcs[f]? = some fn ∧ fn.body = some c ∧ fn.ntmps = n ∧ fn.results = #[.tmp t, .cell u T, .tmp v] ∧ (fn.name == "runtime.NumGoroutine") = false ∧ isAggOf P T = some true ∧ szOf P T = some k
theorem FnM3.callable {f n t u v k:Nat} {T:TypeId} {c:Code} (h:FnM3 P f n t u T k v c):Callable P f:=by
  obtain ⟨fn,h1,h2,_,_,h5,_⟩:=h
  exact ⟨fn,h1,h5,by rw [h2];rfl⟩
def endM3 (t u k v:Nat) (r r' r'':AV) (o':List (Nat×Ob)):Exit→St→Prop
  | .normal,s|.ret,s=>(s.s.lookup t=some (.v .pl r)∧(s.s.lookup u).bind (boxV s.o k)=some (.v .pl r')∧s.s.lookup v=some (.v .pl r''))∧∀ id ob,o'.lookup id=some ob→s.o.lookup id=some ob
  | _,_=>False
end
end Go.Am

namespace Go.Am
open Go.RowKit
section
variable {P:Program} {w0:Fr} {M0:Nat→Prop} {ops:Array Oper} {Q:St→Prop}
def midOkS (ops : Array Oper) (n k a : Nat) : Bool := (List.range k).all fun i => match ops[i]? with
  | none=>false
  | some o => o.guard.isNone && (match o.dst with | some t => !(Nat.beq i a) && Nat.blt t n | none => Nat.beq i a) &&
    (List.range k).all fun j=>match (ops[j]?).bind (·.dst) with
      | some u=>!(looks ops o).contains u||(preds o).contains j
      | none=>true
end
end Go.Am

namespace Go.Am
open Go.RowKit
section
variable {P:Program} {w0:Fr} {M0:Nat→Prop}
variable {o:Oper} {s:St} {x y:Operand} {T U e:TypeId} {t id:Nat} {xs:List AV} {l:List UInt8}
end
end Go.Am

namespace Go.Am
open Go
section
variable {P:Program} {w0:Fr} {M0:Nat→Prop}
end
end Go.Am

namespace Go.Am
open Go.RowKit
section
variable {P:Program} {w0:Fr} {M0:Nat→Prop} {s:St} {o:Oper} {id t u j:Nat} {e r T:TypeId} {cs:List Cell} {xs:List AV} {x y:Operand} {E:Env} {a:Act} {w:World}
theorem subs_d {f:Nat→Value} {b:Nat} {l:List AV} {ln:Option (Nat×Lend)}:¬ subs f b (l.map Cell.d) ln:=by
  rintro ⟨j,c,h1,_,h2⟩
  rw [List.getElem?_map,Option.map_eq_some_iff] at h1
  obtain ⟨d,_,rfl⟩:=h1
  exact h2
theorem SimE.toNest (h:SimE P w0 M0 E s a w) (hnd:Nodup s.s=true) (hM0:∀ b,M0 b→b<w0.w.heap.size) (hl:s.o.lookup id=some (.arr e xs)) :
    ∃ E':Env,E'.cur=E.cur∧E'.blk=E.blk∧SimE P w0 M0 E' (s.upd true id (.nar e ((flat xs).map Cell.d) none)) a w:=by
  obtain ⟨vals,h1,h2,h3⟩:=h.wok.objs id _ hl
  have hfl:=flat_length xs h2
  obtain ⟨E',f1,f2,f3,f4⟩:∃ E':Env,E'.cur=E.cur∧E'.blk=E.blk∧(∀ i,i≠id→E'.sub i=E.sub i)∧E'.sub id=fun j=>vals.getD j undef:=⟨{ E with sub:=fun i=>if i=id then fun j=>vals.getD j undef else E.sub i },rfl,rfl,fun i hi=>if_neg hi,if_pos rfl⟩
  refine ⟨E',f1,f2,h.upd true (fun q=>by cases q) hnd hM0 (fun i hi=>⟨by rw [f1],by rw [f2]⟩) (.inr (by rw [f2])) none ⟨rfl,rfl,rfl,Nat.le_refl _,fun _ _ _=>rfl⟩ (fun _=>Nat.le_refl _) (fun g hg=>by cases hg) (fun b hb=>.inl ⟨_,hl,?_⟩) (fun rep sv=>?_) f3⟩
  · rcases hb with hb | hb
    · rw [f1] at hb;exact hb
    · exact (subs_d hb).elim
  · refine ⟨xs.length, vals, by rw [f1]; exact h1, by rw [List.length_map, hfl], fun j hj => by rw [f4], ⟨fun j c hc _ => ?_, fun i j ci cj b hi _ _ _ hb _ => ?_, (fun j u hu => by cases hu), (fun j u hu => by cases hu)⟩, fun b hb => (subs_d hb).elim⟩
    · rw [List.getElem?_map, Option.map_eq_some_iff] at hc
      obtain ⟨d,hd,rfl⟩:=hc
      refine ⟨(h3 j d hd).1,?_⟩
      rw [f4]
      exact rep .pl _ _ (h3 j d hd).2 (by simp)
    · rw [List.getElem?_map, Option.map_eq_some_iff] at hi
      obtain ⟨d,_,rfl⟩:=hi
      exact hb.elim
theorem imp_nestS (t:Nat) (hM0:∀ b,M0 b→b<w0.w.heap.size) (hnd:Nodup s.s=true) (ht:s.s.lookup t=some (.own id)) (hl:s.o.lookup id=some (.arr e xs)):Imp P w0 M0 s ((s.upd true id (.nar e ((flat xs).map Cell.d) none)).put t (.nst id)):=by
  rintro a w ⟨E,hs⟩
  have h0:=hs.slots t _ ht
  obtain ⟨E',hc,_,h1⟩:=hs.toNest hnd hM0 hl
  refine ⟨E',h1.retag h0.1 ⟨fun e1 c1 l1 hh=>?_,fun k1 c1 l1 hh=>?_⟩⟩
  · rw [hc];exact h0.2 e xs hl
  · rw [show (s.upd true id (.nar e ((flat xs).map Cell.d) none)).o.lookup id = _ from by show (ins id _ _).lookup id = _; rw [lookup_ins, if_pos rfl]] at hh
    cases hh
theorem code_nestS {y:Code} {Q:Exit→St→Prop} (t:Nat) (hM0:∀ b,M0 b→b<w0.w.heap.size) (hnd:Nodup s.s=true) (ht:s.s.lookup t=some (.own id)) (hl:s.o.lookup id=some (.arr e xs)) (h:CodeOk P w0 M0 y ((s.upd true id (.nar e ((flat xs).map Cell.d) none)).put t (.nst id)) Q):CodeOk P w0 M0 y s Q :=
  CodeOk.imp (imp_nestS t hM0 hnd ht hl) h
theorem SimE.borrow (h : SimE P w0 M0 E s a w) (hnd : Nodup s.s = true) (hM0 : ∀ b, M0 b → b < w0.w.heap.size) (hl : s.o.lookup id = some (.nar e cs none)) (hc : cs[j]? = some (.row r xs)) (hu : u ≠ id) :
    ∃ E':Env,E'.cur u=E.sub id j∧SimE P w0 M0 E' { n:=s.n,s:=s.s.filter (fun p=>p.2.stays true u),o:=ins u (.arr r xs) (ins id (.nar e cs (some (j,.arr u))) (killO true u s.o)) } a w:=by
  obtain ⟨n,vals,g1,g2,g3,g4,g5⟩:=h.wok.objs id _ hl
  have hrow:=g4.ok j _ hc (by simp)
  obtain ⟨E',e2,e1,e3,e4⟩:∃ E':Env,E'.cur u=E.sub id j∧(∀ i,i≠u→E'.cur i=E.cur i)∧E'.blk=E.blk∧E'.sub=E.sub:=⟨{ E with cur:=fun i=>if i=u then E.sub id j else E.cur i },if_pos rfl,fun i hi=>if_neg hi,rfl,rfl⟩
  refine ⟨E',e2,?_⟩
  have hN:∀ i q,(if i=u then some (some (Ob.arr r xs)) else if i=id then some (some (.nar e cs (some (j,.arr u)))) else none:Option (Option Ob))=some q→(i=u∧q=some (.arr r xs))∨(i=id∧q=some (.nar e cs (some (j,.arr u)))):=fun i q hq=>by
    by_cases h1:i=u
    · rw [if_pos h1] at hq;injection hq with hq;exact .inl ⟨h1,hq.symm⟩
    · rw [if_neg h1] at hq
      by_cases h2:i=id
      · rw [if_pos h2] at hq;injection hq with hq;exact .inr ⟨h2,hq.symm⟩
      · rw [if_neg h2] at hq;cases hq
  have hsubs:∀ f b,subs f b cs (some (j,.arr u))→subs f b cs none:=fun f b ⟨i,c,q1,q2,q3⟩=>⟨i,c,q1,by simp,q3⟩
  refine SimE.updL (E':=E') (SV.stays true u) (fun i=>if i=u then some (some (.arr r xs)) else if i=id then some (some (.nar e cs (some (j,.arr u)))) else none) _ (fun i=>?_) (fun d=>rfl) (fun i ob hq hx=>?_) (fun i hq=>?_) h hnd hM0 (fun i hq=>?_) (fun x hx=>by rw [e3]) none ⟨rfl,rfl,rfl,Nat.le_refl _,fun _ _ _=>rfl⟩ (fun _=>Nat.le_refl _) (fun g hg=>by cases hg) (fun i ob b hq hb=>.inl ?_) (fun i ob i' ob' b hq hq' hb hb'=>?_) (fun rep sv lents i ob hq=>?_)
  · rw [lookup_ins]
    by_cases h1:i=u
    · rw [if_pos h1,if_pos h1]
    · rw [if_neg h1, if_neg h1, lookup_ins]
      by_cases h2:i=id
      · rw [if_pos h2,if_pos h2]
      · rw [if_neg h2,if_neg h2];exact lookup_killO true u i s.o
  · rcases hN i _ hq with ⟨rfl, _⟩ | ⟨rfl, q⟩
    · obtain ⟨d, h1, h2⟩ := hx
      rw [stays_refs h1] at h2;cases h2
    · injection q with q; subst q
      exact ⟨e1 i (Ne.symm hu),by rw [e3],.inr (.inr (.inr (.inl ⟨e,cs,none,cs,_,hl,rfl,Nat.le_refl _⟩)))⟩
  · rcases hN i _ hq with ⟨_,q⟩|⟨_,q⟩<;>cases q
  · refine ⟨e1 i fun q => ?_, by rw [e3], by rw [e4]⟩
    rw [if_pos q] at hq;cases hq
  · refine ⟨id, _, by rw [if_neg (Ne.symm hu), if_pos rfl]; simp, hl, ?_⟩
    rcases hN i _ hq with ⟨rfl,q⟩|⟨rfl,q⟩
    · injection q with q; subst q
      have hb:(E'.cur i).ownBlock=some b:=hb
      rw [e2] at hb
      exact .inr ⟨j,_,hc,by simp,hb⟩
    · injection q with q; subst q
      rcases hb with hb|hb
      · rw [e1 i (Ne.symm hu)] at hb;exact .inl hb
      · rw [e4] at hb;exact .inr (hsubs _ _ hb)
  · have key : ∀ b, (E.sub id j).ownBlock = some b → ownB E' id b (.nar e cs (some (j, .arr u))) → False := fun b h1 h2 => by
      rcases h2 with h2|⟨i2,c2,q1,q2,q3⟩
      · rw [e1 id (Ne.symm hu)] at h2
        exact g5 b ⟨j,_,hc,by simp,h1⟩ h2
      · rw [e4] at q3
        have:=g4.apart i2 j c2 _ b q1 hc (by simp) (by simp) q3 h1
        subst this
        exact q2 rfl
    rcases hN i _ hq with ⟨rfl,q⟩|⟨rfl,q⟩
    · injection q with q; subst q
      rcases hN i' _ hq' with ⟨rfl,q'⟩|⟨rfl,q'⟩
      · rfl
      · injection q' with q'; subst q'
        exact (key b (by rw [← e2];exact hb) hb').elim
    · injection q with q; subst q
      rcases hN i' _ hq' with ⟨rfl,q'⟩|⟨rfl,q'⟩
      · injection q' with q'; subst q'
        exact (key b (by rw [← e2];exact hb') hb).elim
      · rfl
  · rcases hN i _ hq with ⟨rfl, q⟩ | ⟨rfl, q⟩
    · injection q with q; subst q
      obtain ⟨vals',h1,h2,h3⟩:=hrow
      exact ⟨vals',by rw [e2];exact h1,h2,fun k d hd=>⟨(h3 k d hd).1,rep .pl _ _ (h3 k d hd).2 (by simp)⟩⟩
    · injection q with q; subst q
      refine ⟨n,vals,by rw [e1 i (Ne.symm hu)];exact g1,g2,by rw [e4];exact g3,⟨fun k c hk hn=>by rw [e4];exact (g4.ok k c hk (by simp)).go (fun _ _=>rfl) (fun _ _ hf=>hf) (fun v d hr=>rep .pl v d hr (by simp)),fun i1 i2 c1 c2 b h1 h2 _ _ h5 h6=>by rw [e4] at h5 h6;exact g4.apart i1 i2 c1 c2 b h1 h2 (by simp) (by simp) h5 h6,fun k u' hk=>?_,(fun k u' hk=>by cases hk)⟩,fun b hb=>by rw [e1 i (Ne.symm hu)];rw [e4] at hb;exact g5 b (hsubs _ _ hb)⟩
      cases hk
      rw [e4];exact e2.symm
def dropO (u:Nat) (o:List (Nat×Ob)):List (Nat×Ob):=o.filter fun p=>!(Nat.beq p.1 u)
theorem lookup_dropO (u i : Nat) : ∀ o : List (Nat × Ob), (dropO u o).lookup i = if i = u then none else o.lookup i
  | []=>by unfold dropO;simp
  | (t, d) :: r => by
    have ih:=lookup_dropO u i r
    unfold dropO at ih ⊢
    rw [List.filter_cons]
    by_cases h:t=u
    · subst h
      rw [if_neg (by simp),ih,lookup_cons']
      by_cases hi:i=t
      · rw [if_pos hi,if_pos hi]
      · rw [if_neg hi,if_neg hi,if_neg hi]
    · have hb : (!(Nat.beq t u)) = true := by
        cases q:Nat.beq t u with
        | false=>rfl
        | true=>exact absurd (Nat.eq_of_beq_eq_true q) h
      rw [if_pos hb,lookup_cons',lookup_cons',ih]
      by_cases hi:i=t
      · rw [if_pos hi,if_pos hi,if_neg (by rw [hi];exact h)]
      · rw [if_neg hi,if_neg hi]
theorem SimE.giveback (h : SimE P w0 M0 E s a w) (hnd : Nodup s.s = true) (hM0 : ∀ b, M0 b → b < w0.w.heap.size) (hl : s.o.lookup id = some (.nar e cs (some (j, .arr u)))) (hj : j < cs.length) (hlu : s.o.lookup u = some (.arr r xs)) :
    SimE P w0 M0 E { n:=s.n,s:=s.s.filter (fun p=>p.2.stays true u),o:=ins id (.nar e (cs.set j (.row r xs)) none) (dropO u (killO true u s.o)) } a w:=by
  have hu:u≠id:=fun q=>by rw [q,hl] at hlu;cases hlu
  obtain ⟨n,vals,g1,g2,g3,g4,g5⟩:=h.wok.objs id _ hl
  have hv:=g4.larr j u rfl
  have hN:∀ i q,(if i=u then some none else if i=id then some (some (Ob.nar e (cs.set j (.row r xs)) none)) else none:Option (Option Ob))=some q→(i=u∧q=none)∨(i=id∧q=some (.nar e (cs.set j (.row r xs)) none)):=fun i q hq=>by
    by_cases h1:i=u
    · rw [if_pos h1] at hq;injection hq with hq;exact .inl ⟨h1,hq.symm⟩
    · rw [if_neg h1] at hq
      by_cases h2:i=id
      · rw [if_pos h2] at hq;injection hq with hq;exact .inr ⟨h2,hq.symm⟩
      · rw [if_neg h2] at hq;cases hq
  have hcell:∀ (k:Nat) c,(cs.set j (.row r xs))[k]?=some c→(k=j∧c=.row r xs)∨(k≠j∧cs[k]?=some c):=fun k c hk=>by
    by_cases q:k=j
    · subst q
      rw [List.getElem?_set_self hj] at hk
      exact .inl ⟨rfl,by injection hk with hk;exact hk.symm⟩
    · rw [List.getElem?_set_ne (Ne.symm q)] at hk
      exact .inr ⟨q,hk⟩
  have hne:∀ k,k≠j→(some (j,Lend.arr u)).map (·.1)≠some k:=fun k q q2=>by
    injection q2 with q2;exact q q2.symm
  have hsub:∀ b,subs (E.sub id) b (cs.set j (.row r xs)) none→ownB E u b (.arr r xs)∨subs (E.sub id) b cs (some (j,.arr u)):=fun b ⟨k,c,q1,_,q3⟩=>by
    rcases hcell k c q1 with ⟨rfl,rfl⟩|⟨q4,q5⟩
    · refine .inl ?_
      show (E.cur u).ownBlock=some b
      rw [← hv];exact q3
    · exact .inr ⟨k,c,q5,hne k q4,q3⟩
  refine SimE.updL (E':=E) (SV.stays true u) (fun i=>if i=u then some none else if i=id then some (some (.nar e (cs.set j (.row r xs)) none)) else none) _ (fun i=>?_) (fun d=>rfl) (fun i ob hq hx=>?_) (fun i hq=>⟨rfl,rfl⟩) h hnd hM0 (fun i hq=>⟨rfl,rfl,rfl⟩) (fun x hx=>rfl) none ⟨rfl,rfl,rfl,Nat.le_refl _,fun _ _ _=>rfl⟩ (fun _=>Nat.le_refl _) (fun g hg=>by cases hg) (fun i ob b hq hb=>.inl ?_) (fun i ob i' ob' b hq hq' hb hb'=>?_) (fun rep sv lents i ob hq=>?_)
  · rw [lookup_ins]
    by_cases h2:i=id
    · rw [if_pos h2,if_neg (fun q=>hu (q.symm.trans h2)),if_pos h2]
    · rw [if_neg h2, lookup_dropO]
      by_cases h1:i=u
      · rw [if_pos h1,if_pos h1]
      · rw [if_neg h1,if_neg h1,if_neg h2];exact lookup_killO true u i s.o
  · rcases hN i _ hq with ⟨_, q⟩ | ⟨rfl, q⟩
    · cases q
    · injection q with q; subst q
      exact ⟨rfl,rfl,.inr (.inr (.inr (.inl ⟨e,cs,_,_,_,hl,rfl,by rw [List.length_set];exact Nat.le_refl _⟩)))⟩
  · rcases hN i _ hq with ⟨_, q⟩ | ⟨rfl, q⟩
    · cases q
    · injection q with q; subst q
      rcases hb with hb|hb
      · exact ⟨i,_,by rw [if_neg (Ne.symm hu),if_pos rfl];simp,hl,.inl hb⟩
      · rcases hsub b hb with q1 | q1
        · exact ⟨u,_,by rw [if_pos rfl];simp,hlu,q1⟩
        · exact ⟨i,_,by rw [if_neg (Ne.symm hu),if_pos rfl];simp,hl,.inr q1⟩
  · rcases hN i _ hq with ⟨_, q⟩ | ⟨rfl, _⟩
    · cases q
    · rcases hN i' _ hq' with ⟨_, q⟩ | ⟨rfl, _⟩
      · cases q
      · rfl
  · rcases hN i _ hq with ⟨_, q⟩ | ⟨rfl, q⟩
    · cases q
    · injection q with q; subst q
      obtain ⟨vals',h1,h2,h3⟩:=h.wok.objs u _ hlu
      have apart:∀ b,ownB E u b (.arr r xs)→ownB E i b (.nar e cs (some (j,.arr u)))→False:=fun b q1 q2=>hu (h.wok.disj u _ i _ b hlu hl q1 q2)
      have blk:∀ b,(E.sub i j).ownBlock=some b→ownB E u b (.arr r xs):=fun b q=>by
        show (E.cur u).ownBlock=some b
        rw [← hv];exact q
      refine ⟨n,vals,g1,by rw [List.length_set];exact g2,fun k hk=>g3 k (by rwa [List.length_set] at hk),⟨fun k c hk _=>?_,fun i1 i2 c1 c2 b q1 q2 _ _ q5 q6=>?_,(fun k u' hk=>by cases hk),(fun k u' hk=>by cases hk)⟩,fun b hb=>?_⟩
      · rcases hcell k c hk with ⟨rfl, rfl⟩ | ⟨q4, q5⟩
        · exact ⟨vals',by rw [hv];exact h1,h2,fun k d hd=>⟨(h3 k d hd).1,rep .pl _ _ (h3 k d hd).2 (by simp)⟩⟩
        · exact (g4.ok k c q5 (hne k q4)).go (fun _ _=>rfl) (fun _ _ hf=>hf) (fun v d hr=>rep .pl v d hr (by simp))
      · rcases hcell i1 c1 q1 with ⟨rfl, rfl⟩ | ⟨p1, p2⟩
        · rcases hcell i2 c2 q2 with ⟨rfl, rfl⟩ | ⟨p3, p4⟩
          · rfl
          · exact (apart b (blk b q5) (.inr ⟨i2,c2,p4,hne i2 p3,q6⟩)).elim
        · rcases hcell i2 c2 q2 with ⟨rfl, rfl⟩ | ⟨p3, p4⟩
          · exact (apart b (blk b q6) (.inr ⟨i1,c1,p2,hne i1 p1,q5⟩)).elim
          · exact g4.apart i1 i2 c1 c2 b p2 p4 (hne i1 p1) (hne i2 p3) q5 q6
      · rcases hsub b hb with q1 | q1
        · exact fun q=>apart b q1 (.inl q)
        · exact g5 b q1
theorem imp_giveback (hM0:∀ b,M0 b→b<w0.w.heap.size) (hnd:Nodup s.s=true) (hl:s.o.lookup id=some (.nar e cs (some (j,.arr u)))) (hj:j<cs.length) (hlu:s.o.lookup u=some (.arr r xs)) :
    Imp P w0 M0 s { n:=s.n,s:=s.s.filter (fun p=>p.2.stays true u),o:=ins id (.nar e (cs.set j (.row r xs)) none) (dropO u (killO true u s.o)) }:=fun a w ⟨E,hs⟩=>⟨E,hs.giveback hnd hM0 hl hj hlu⟩
theorem code_giveback {y:Code} {Q:Exit→St→Prop} (id u:Nat) (hM0:∀ b,M0 b→b<w0.w.heap.size) (hnd:Nodup s.s=true) (hl:s.o.lookup id=some (.nar e cs (some (j,.arr u)))) (hj:j<cs.length) (hlu:s.o.lookup u=some (.arr r xs))
    (h:CodeOk P w0 M0 y { n:=s.n,s:=s.s.filter (fun p=>p.2.stays true u),o:=ins id (.nar e (cs.set j (.row r xs)) none) (dropO u (killO true u s.o)) } Q):CodeOk P w0 M0 y s Q:=CodeOk.imp (imp_giveback hM0 hnd hl hj hlu) h
end
end Go.Am

namespace Go.Am
open Go.RowKit
section
variable {P:Program} {w0:Fr} {M0:Nat→Prop} {s:St} {o:Oper} {ρ:Operand→Option SV} {ob:List (Nat×Ob)} {id t u j k b:Nat} {e r T:TypeId} {cs:List Cell} {ln:Option (Nat×Lend)} {xs:List AV} {x y:Operand}
theorem nst_slice {w:World} {E:Env} {o:List (Nat×Ob)} (h:ObOk P w0 M0 w E o id (.nar e cs ln)) (hk:szOf P e=some 1):(E.cur id=.slice none 0 0∧cs.length=0)∨∃ g cap,E.cur id=.slice (some ⟨g,0,none⟩) cs.length cap:=by
  obtain ⟨n,vals,h1,h2,h3,h4,h5⟩:=h
  have hn:cs.length=n:=by rw [h2,cellsOf_of hk,Nat.mul_one]
  rcases h1.1.2 with ⟨hv,h0⟩|⟨g,cap,cur,hv,_⟩
  · exact .inl ⟨hv,by omega⟩
  · exact .inr ⟨g,cap,by rw [hv,hn]⟩
theorem pure_len_nst (ho:o.op=.call { callee:=.builtin .len,args:=#[x],argTypes:=#[T] }) (hT:P.underlying T=some (.slice e)) (hk:szOf P e=some 1) (hx:ρ x=some (.nst id)) (hl:ob.lookup id=some (.nar e cs ln)) :
    Pure P w0 M0 o ρ ob (.v .pl (.sc (.int .i64 cs.length))) :=
  pure_value fun E w ev hw h=>by
    have hv:=(h x _ hx).1 e cs ln hl
    refine ⟨.int .i64 cs.length,w,?_,.refl _ _,.sc _ rfl⟩
    rcases nst_slice (hw.objs id _ hl) hk with ⟨q,h0⟩|⟨g,cap,q⟩
    · rw [q] at hv
      simp [execOp,ho,resolve,hv,invoke,builtin,Builtin.len_,run_underlying hT,goInt,h0]
    · rw [q] at hv
      simp [execOp,ho,resolve,hv,invoke,builtin,Builtin.len_,run_underlying hT,goInt]
theorem pure_index_nst {q : IntKind} {i : Int} (ho : o.op = .indexAddr T x y) (hT : P.underlying T = some (.slice e)) (hk : szOf P e = some 1) (hx : ρ x = some (.nst id)) (hl : ob.lookup id = some (.nar e cs ln)) (hy : scal ρ y = some (.int q i)) (h : 0 ≤ i ∧ i < cs.length) :
    Pure P w0 M0 o ρ ob (.nel id i.toNat) :=
  pure_value fun E w ev hw hh=>by
    have hr:=(hh x _ hx).1 e cs ln hl
    have hi:=scal_ok hh hy
    rcases nst_slice (hw.objs id _ hl) hk with ⟨_,h0⟩|⟨g,cap,hv⟩
    · omega
    · rw [hv] at hr
      have hel:P.elem T=e:=by simp [Program.elem,hT]
      refine ⟨.pointer (some ⟨g,i.toNat,none⟩),w,?_,.refl _ _,fun e' cs' ln' h'=>?_⟩
      · have hin : 0 ≤ i ∧ i < (cs.length : Int) := h
        simp [execOp,ho,hr,hi,run_indexAt_slice,hel,hT,hin,run_size hk,Addr.add_lit]
      · rw [hl] at h'
        simp only [Option.some.injEq,Ob.nar.injEq] at h'
        obtain ⟨_,rfl,_⟩:=h'
        exact ⟨by omega,g,by rw [hv];rfl,rfl⟩
theorem nel_load {w:World} {E:Env} {o':List (Nat×Ob)} {v:Value} {g:Nat} (h:ObOk P w0 M0 w E o' id (.nar e cs ln)) (hj:j<cs.length) (hg:(E.cur id).ownBlock=some g) (hv:v=.pointer (some ⟨g,j,none⟩)) (ho:o.op=.load T x) (hT:isAggOf P T=some false) {ev:Operand→Value} (hx:ev x=v) :
    (execOp ev o).run P w=.ok (.value (E.sub id j)) w:=by
  obtain ⟨n,vals,h1,h2,h3,h4,h5⟩:=h
  have hvl:j<vals.length:=by rw [h1.1.1,← h2];exact hj
  have hcell:=h1.1.cells hg j _ (List.getElem?_eq_getElem hvl)
  rw [Addr.add_lit,Nat.zero_add] at hcell
  have e1:vals[j]=E.sub id j:=by
    rw [← h3 j hj,List.getD_eq_getElem?_getD,List.getElem?_eq_getElem hvl];rfl
  rw [e1] at hcell
  simp [execOp,ho,hx,hv,Instr.loadAt,Instr.sureAddr,loadVar,run_isAggOf hT,hcell]
theorem pure_load_lent (ho:o.op=.load T x) (hT:isAggOf P T=some false) (hx:ρ x=some (.nel id j)) (hl:ob.lookup id=some (.nar e cs (some (j,.arr u)))):Pure P w0 M0 o ρ ob (.own u) :=
  pure_value fun E w ev hw h=>by
    obtain ⟨hj,g,hg,hv⟩:=h x _ hx e cs _ hl
    have h0:=hw.objs id _ hl
    have hr:=nel_load h0 hj hg hv ho hT (ev:=ev) rfl
    obtain ⟨n,vals,h1,h2,h3,h4,h5⟩:=h0
    exact ⟨_,w,hr,.refl _ _,fun _ _ _=>h4.larr j u rfl⟩
end
end Go.Am

namespace Go.Am
open Go.RowKit Go.Sort Go.Proofs
structure RevI (P:Program) (f:FuncId):Prop where
  callable:Callable P f
  none:∀ (p:Option Addr) (cap:Nat) (w:World),Calls P f #[.slice p 0 cap] w fun e w'=>e=.returned (.tuple #[])∧w'=w
  some:∀ (blk off cap:Nat) (zs:List Int) (w:World) (hH:Holds (Value.int .i64) w blk off zs.toArray) (hblk:blk<w.heap.size) (hsz:zs.length<4611686018427387904),
    Calls P f #[.slice (.some ⟨blk,off,.none⟩) zs.length cap] w fun e w' =>
      e=.returned (.tuple #[])∧∃ n os,w'=grow (putRow (Value.int .i64) (Sort.ahead w n) blk off (zs.reverse).toArray) os
section
variable {P:Program} {w0:Fr} {M0:Nat→Prop}
variable {o:Oper} {s:St} {x y:Operand} {T T' e:TypeId} {c:Cls} {id t:Nat}
end
end Go.Am

namespace Go.Am
open Go.RowKit
section
variable {P:Program} {w0:Fr} {M0:Nat→Prop} {ops:Array Oper} {Q:St→Prop}
def midOkG (ops : Array Oper) (n k : Nat) (eff : Nat → Bool) : Bool := (List.range k).all fun i => match ops[i]? with
  | none=>false
  | some o => o.guard.isNone && (match o.dst with | some t => Nat.blt t n | none => eff i) &&
    (List.range k).all fun j=>match (ops[j]?).bind (·.dst) with
      | some u=>!(looks ops o).contains u||(preds o).contains j
      | none=>true
end
end Go.Am

namespace Go.Am
open Go.RowKit
section
variable {P:Program} {w0:Fr} {M0:Nat→Prop} {ops:Array Oper} {Q:St→Prop}
def aftS (G X:List (Nat×SV)) (o:Oper):List (Nat×SV):=match o.dst with
  | some t=>(match G.lookup t with|some d=>ins t d X|none=>X)
  | none=>X
def effE (a b i:Nat):Bool:=Nat.beq i a||Nat.beq i b
end
end Go.Am

namespace Go.Am
open Go.RowKit Go.MapKept Go.ChangeMaps

def scsOf : List AV → Option (List Value)
  | []=>some []
  | .sc v :: r => match scsOf r with
    | some l=>some (v :: l)
    | none=>none
  | _ :: _=>none
def SV.aval : SV → Option Value
  | .v _ (.agg cs) => match scsOf cs with
    | some l=>some (.agg l.toArray)
    | none=>none
  | _=>none
def ascal (ρ:Operand→Option SV) (x:Operand):Option Value:=(ρ x).bind SV.aval
section
variable {P:Program} {w0:Fr} {M0:Nat→Prop}
variable {o:Oper} {ρ:Operand→Option SV} {ob:List (Nat×Ob)} {d:SV} {x y z:Operand} {T T' e:TypeId} {k b:Nat} {c:Cls} {id off:Nat} {s:St} {t:Nat} {ks:List Value} {vs:List AV} {kt et:TypeId} {kd:TypeDesc}
end
end Go.Am

namespace Go.Am
open Go.RowKit
section
variable {P:Program} {w0:Fr} {M0:Nat→Prop}
variable {o:Oper} {x y z:Operand} {T T' e:TypeId} {k b:Nat} {c:Cls} {id off:Nat} {s:St} {t:Nat} {xs:List AV}
def viewX (ob:List (Nat×Ob)):SV→Option AV
  | .v _ d=>some d
  | d=>(view ob d).map (·.2)
def viewAllX (ρ : Operand → Option SV) (ob : List (Nat × Ob)) : List Operand → Option (List AV)
  | []=>some []
  | x :: r => match (ρ x).bind (viewX ob), viewAllX ρ ob r with
    | some d,some ds=>some (d :: ds)
    | _,_=>none
end
end Go.Am

namespace Go.Am
open Go.RowKit
section
variable {P:Program} {w0:Fr} {M0:Nat→Prop} {s:St}
end
end Go.Am

namespace Go.Am
open Go.RowKit
section
variable {P:Program} {w0:Fr} {M0:Nat→Prop} {ops:Array Oper}
def keyOk (t':Nat):SV→Bool
  | .v .vw _=>false
  | .v _ _=>true
  | .own j=>!(Nat.beq j t')
  | _=>false
theorem one_look {α:Type} {id i:Nat} {x y:α} (h:[(id,x)].lookup i=some y):i=id∧y=x:=by
  rw [lookup_cons'] at h
  split at h
  · rename_i e;simp only [Option.some.injEq] at h;exact ⟨e,h.symm⟩
  · simp at h
theorem one_self {α:Type} {id:Nat} {x:α}:[(id,x)].lookup id=some x:=by rw [lookup_cons',if_pos rfl]
def effH (a b c i:Nat):Bool:=Nat.beq i a||(Nat.beq i b||Nat.beq i c)
end
end Go.Am

