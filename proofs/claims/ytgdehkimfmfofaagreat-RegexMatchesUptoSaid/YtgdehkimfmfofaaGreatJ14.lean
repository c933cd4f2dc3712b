/-
  Plain functions: sizes of normal forms.
-/
import Derived.Test.YtgdehkimfmfofaaGreatJ13
set_option linter.unusedVariables false
set_option linter.unusedSectionVars false
set_option linter.unusedSimpArgs false
namespace Go.Wb
open Go.Am
section
variable {α:Type} [Inhabited α] {le eq:α→α→Bool}
def Srt (le:α→α→Bool) (l:List α):Prop:=l.Pairwise fun x y=>le x y=true∧x≠y
theorem getD_el {l:List α} {i:Nat} (h:i<l.length):l.getD i default=l[i]:=by rw [List.getD_eq_getElem?_getD,List.getElem?_eq_getElem h];rfl
theorem pair_getD {R:α→α→Prop} {l:List α} (h:l.Pairwise R) {i j:Nat} (hij:i<j) (hj:j<l.length):R (l.getD i default) (l.getD j default):=by
  rw [getD_el (by omega),getD_el hj];exact List.pairwise_iff_getElem.1 h i j (by omega) hj hij
theorem mem_take_getD {l:List α} {i:Nat} {a:α} (h:a∈l.take i):∃ j,j<i∧j<l.length∧a=l.getD j default:=by
  obtain ⟨j,hj,e⟩:=List.getElem_of_mem h
  rw [List.length_take] at hj
  refine ⟨j,by omega,by omega,?_⟩
  rw [getD_el (by omega),← e,List.getElem_take]
theorem getD_mem_take {l:List α} {i j:Nat} (h:j<i) (hj:j<l.length):l.getD j default∈l.take i:=by
  rw [getD_el hj];exact List.mem_take_iff_getElem.2 ⟨j,by omega,rfl⟩
theorem cptN_srt (an : ∀ a b, le a b = true → le b a = true → a = b) (heq : ∀ a b, eq a b = true ↔ a = b) {l : List α} (h : l.Pairwise fun x y => le x y = true) :
    ∀ i,i≤l.length→Srt le (cptN eq l i)∧∀ x,x∈cptN eq l i↔x∈l.take i
  | 0,_=>⟨.nil,fun x=>by simp [cptN]⟩
  | i + 1, hi => by
    obtain ⟨h1,h2⟩:=cptN_srt an heq h i (by omega)
    by_cases q:0<i∧eq (l.getD i default) (l.getD (i-1) default)=true
    · rw [cptN_dup q.1 q.2]
      refine ⟨h1,fun x=>?_⟩
      rw [h2,take_succ' (by omega),List.mem_append,List.mem_singleton]
      refine ⟨.inl,fun hx=>hx.elim id fun hx=>?_⟩
      rw [hx,(heq _ _).1 q.2]
      exact getD_mem_take (by omega) (by omega)
    · rw [cptN, if_neg q]
      refine ⟨List.pairwise_append.2 ⟨h1,List.pairwise_singleton _ _,fun a ha b hb=>?_⟩,fun x=>by rw [take_succ' (by omega),List.mem_append,List.mem_append,h2]⟩
      rw [List.mem_singleton] at hb
      subst hb
      obtain ⟨j,hj,hj',rfl⟩:=mem_take_getD ((h2 a).1 ha)
      refine ⟨pair_getD h hj (by omega),fun e=>q ⟨by omega,(heq _ _).2 ?_⟩⟩
      by_cases e1:j=i-1
      · rw [← e1];exact e.symm
      · refine an _ _ ?_ (pair_getD h (by omega) (by omega))
        rw [← e];exact pair_getD h (by omega) (by omega)
theorem cpt_srt (an:∀ a b,le a b=true→le b a=true→a=b) (heq:∀ a b,eq a b=true↔a=b) {l:List α} (h:l.Pairwise fun x y=>le x y=true) :
    Srt le (cpt eq l)∧∀ x,x∈cpt eq l↔x∈l:=by
  have h1:=cptN_srt an heq h l.length (Nat.le_refl _)
  rw [List.take_length] at h1;exact h1
end
theorem eqR_iff (a b:Rx):eqR a b=true↔a=b:=by
  show decide _=true↔_;rw [decide_eq_true_eq];exact ⟨cmpR_zero _ _,fun e=>by rw [e,cmpR_self]⟩
def uniR (k:List Rx):List Rx:=cpt eqR (sortR k)
def uniI (s:List Int):List Int:=cpt eqI (sortI s)
theorem sortR_pw (k:List Rx):(sortR k).Pairwise fun x y=>leR x y=true:=isort_pw leR_tr leR_to k
theorem sortI_pw (s:List Int):(sortI s).Pairwise fun x y=>leI x y=true:=isort_pw leI_tr leI_to s
theorem uniR_srt (k:List Rx):Srt leR (uniR k):=(cpt_srt leR_an eqR_iff (sortR_pw k)).1
theorem uniR_mem {k:List Rx} {x:Rx}:x∈uniR k↔x∈k:=((cpt_srt leR_an eqR_iff (sortR_pw k)).2 x).trans sortR_mem
theorem uniI_srt (s:List Int):Srt leI (uniI s):=(cpt_srt leI_an (fun a b=>decide_eq_true_iff) (sortI_pw s)).1
theorem sortI_mem {s:List Int} {x:Int}:x∈sortI s↔x∈s:=(isort_perm s).mem_iff
theorem uniI_mem {s:List Int} {x:Int}:x∈uniI s↔x∈s:=((cpt_srt leI_an (fun a b=>decide_eq_true_iff) (sortI_pw s)).2 x).trans sortI_mem
theorem setOk_iff {s : List Int} : setOk s = true ↔ 0 < s.length ∧ Srt leI s ∧ ∀ x ∈ s, 0 ≤ x ∧ x < 64 := by
  unfold setOk;rw [decide_eq_true_eq]
  refine ⟨fun ⟨h0,h⟩=>⟨h0,?_,fun x hx=>?_⟩,fun ⟨h0,h1,h2⟩=>⟨h0,fun j hj=>?_⟩⟩
  · have hlt : ∀ (n i j : Nat), j = i + n + 1 → j < s.length → s.getD i default < s.getD j default := by
      intro n
      induction n with
      | zero =>
        intro i j e hj
        have:=(h j hj).2.2 (by omega)
        rwa [show ((j:Int)-1).toNat=i by omega] at this
      | succ n ih =>
        intro i j e hj
        have h1:=ih i (j-1) (by omega) (by omega)
        have:=(h j hj).2.2 (by omega)
        rw [show ((j:Int)-1).toNat=j-1 by omega] at this
        omega
    refine List.pairwise_iff_getElem.2 fun i j hi hj hij=>?_
    have:=hlt (j-i-1) i j (by omega) hj
    rw [getD_el hi,getD_el hj] at this
    exact ⟨decide_eq_true (by omega),by omega⟩
  · obtain ⟨j, hj, e⟩ := List.getElem_of_mem hx
    have:=h j hj
    unfold okAt at this;rw [getD_el hj,e] at this
    exact ⟨this.1,this.2.1⟩
  · unfold okAt
    refine ⟨(h2 _ (by rw [getD_el hj];exact List.getElem_mem hj)).1,(h2 _ (by rw [getD_el hj];exact List.getElem_mem hj)).2,fun q=>?_⟩
    have h3:=pair_getD h1 (i:=((j:Int)-1).toNat) (j:=j) (by omega) hj
    have h4:=of_decide_eq_true h3.1
    have h5:=h3.2
    omega
theorem putKs_eq (l:List Rx):putKs l=l.filter fun x=>!decide (x.kind=0∨x.kind=2):=by
  have:∀ (l m:List Rx),l.foldl putK m=m++l.filter fun x=>!decide (x.kind=0∨x.kind=2):=by
    intro l
    induction l with
    | nil=>intro m;simp
    | cons x l ih =>
      intro m
      rw [List.foldl_cons,ih]
      by_cases h:x.kind=0∨x.kind=2
      · rw [putK_0 h,List.filter_cons_of_neg (by simp [h])]
      · rw [putK_x h,List.filter_cons_of_pos (by simp [h]),List.append_assoc];rfl
  exact this l []
theorem putKs_mem {l:List Rx} {x:Rx}:x∈putKs l↔x∈l∧x.kind≠0∧x.kind≠2:=by
  rw [putKs_eq,List.mem_filter,Bool.not_eq_true',decide_eq_false_iff_not]
  exact ⟨fun h=>⟨h.1,fun e=>h.2 (.inl e),fun e=>h.2 (.inr e)⟩,fun h=>⟨h.1,fun e=>e.elim h.2.1 h.2.2⟩⟩
theorem putSs_mem {l:List Rx} {z:Int}:z∈putSs l↔∃ x∈l,x.kind=2∧z∈x.syms:=by
  have:∀ (l:List Rx) (s:List Int),z∈l.foldl putS s↔z∈s∨∃ x∈l,x.kind=2∧z∈x.syms:=by
    intro l
    induction l with
    | nil=>intro s;simp
    | cons x l ih =>
      intro s
      rw [List.foldl_cons,ih]
      by_cases h:x.kind=2
      · rw [putS_2 h,List.mem_append];simp [h,or_assoc]
      · rw [putS_x h];simp [h]
  exact (this l []).trans (by simp)
theorem altL_mem {l:List Rx} {x:Rx}:x∈altL l↔∃ y∈l,x∈altF y:=List.mem_flatMap
theorem altK_mem {l:List Rx} {x:Rx}:x∈altK l↔x∈altL l∧x.kind≠0∧x.kind≠2:=putKs_mem
theorem altS_mem {l:List Rx} {z:Int}:z∈altS l↔∃ x∈altL l,x.kind=2∧z∈x.syms:=putSs_mem
theorem altM_mem {s:List Int} {k:List Rx} {x:Rx}:x∈altM s k↔x∈k∨(0<s.length∧x=.mk 2 (uniI s) []):=by
  unfold altM
  by_cases h:0<s.length
  · rw [if_pos h,List.mem_append,List.mem_singleton];exact or_congr_right ⟨fun e=>⟨h,e⟩,fun e=>e.2⟩
  · rw [if_neg h];exact ⟨.inl,fun e=>e.elim id fun e=>absurd e.1 h⟩
theorem altD_uni (l:List Rx):altD l=uniR (altM (altS l) (altK l)):=rfl
inductive Nf:Rx→Prop
  | none:Nf (.mk 0 [] [])
  | empty:Nf (.mk 1 [] [])
  | set {s:List Int}:setOk s=true→Nf (.mk 2 s [])
  | seq {l:List Rx}:2≤l.length→(∀ x,x∈l→Nf x)→(∀ x∈l,x.kind≠0∧x.kind≠1∧x.kind≠3)→Nf (.mk 3 [] l)
  | alt {l:List Rx}:2≤l.length→(∀ x,x∈l→Nf x)→(∀ x∈l,x.kind≠0∧x.kind≠4)→Srt leR l→(∀ x∈l,∀ y∈l,x.kind=2→y.kind=2→x=y) →
      (∀ x∈l,x.kind=1→∀ y∈l,y.kind≠1→accR y=false)→Nf (.mk 4 [] l)
  | star {x:Rx}:Nf x→x.kind≠0∧x.kind≠1∧x.kind≠5→(x.kind=4→∀ y∈x.kids,y.kind≠1)→Nf (.mk 5 [] [x])
theorem Nf.kinds {x:Rx} (h:Nf x):0≤x.kind∧x.kind≤5:=by cases h<;>exact ⟨by simp [Rx.kind],by simp [Rx.kind]⟩
theorem Nf.k1 {x:Rx} (h:Nf x) (hk:x.kind=1):x=emptyRx:=by cases h<;>first|rfl|exact absurd hk (by simp [Rx.kind])
theorem Nf.k0 {x:Rx} (h:Nf x) (hk:x.kind=0):x=noneRx:=by cases h<;>first|rfl|exact absurd hk (by simp [Rx.kind])
theorem Nf.k2 {x:Rx} (h:Nf x) (hk:x.kind=2):x=.mk 2 x.syms []∧setOk x.syms=true:=by
  cases h with
  | set h=>exact ⟨rfl,h⟩
  | _=>exact absurd hk (by simp [Rx.kind])
theorem Nf.k3 {x:Rx} (h:Nf x) (hk:x.kind=3):x=.mk 3 [] x.kids∧2≤x.kids.length∧(∀ y,y∈x.kids→Nf y)∧(∀ y∈x.kids,y.kind≠0∧y.kind≠1∧y.kind≠3):=by
  cases h with
  | seq h1 h2 h3=>exact ⟨rfl,h1,h2,h3⟩
  | _=>exact absurd hk (by simp [Rx.kind])
theorem Nf.k4 {x:Rx} (h:Nf x) (hk:x.kind=4):x=.mk 4 [] x.kids∧2≤x.kids.length∧(∀ y,y∈x.kids→Nf y)∧(∀ y∈x.kids,y.kind≠0∧y.kind≠4)∧Srt leR x.kids ∧
    (∀ y∈x.kids,∀ z∈x.kids,y.kind=2→z.kind=2→y=z)∧(∀ y∈x.kids,y.kind=1→∀ z∈x.kids,z.kind≠1→accR z=false):=by
  cases h with
  | alt h1 h2 h3 h4 h5 h6=>exact ⟨rfl,h1,h2,h3,h4,h5,h6⟩
  | _=>exact absurd hk (by simp [Rx.kind])
theorem Nf.k5 {x:Rx} (h:Nf x) (hk:x.kind=5):∃ y,x=.mk 5 [] [y]∧Nf y∧(y.kind≠0∧y.kind≠1∧y.kind≠5)∧(y.kind=4→∀ z∈y.kids,z.kind≠1):=by
  cases h with
  | star h1 h2 h3=>exact ⟨_,rfl,h1,h2,h3⟩
  | _=>exact absurd hk (by simp [Rx.kind])
theorem seqF_nf {x y:Rx} (h:Nf x) (h0:x.kind≠0) (hy:y∈seqF x):Nf y∧y.kind≠0∧y.kind≠1∧y.kind≠3:=by
  by_cases h3:x.kind=3
  · rw [seqF_3 h3] at hy
    obtain ⟨_,_,h4,h5⟩:=h.k3 h3
    exact ⟨h4 y hy,h5 y hy⟩
  · by_cases h1 : x.kind = 1
    · rw [seqF_1 h1] at hy;cases hy
    · rw [seqF_x h3 h1, List.mem_singleton] at hy
      subst hy;exact ⟨h,h0,h1,h3⟩
theorem seqN_cases {l:List Rx} (P:Rx→Prop) (hn:P noneRx) (he:(∀ x∈l,x.kind≠0)→P (seqE (seqL l))):P (seqN l):=by
  unfold seqN
  by_cases h:l.any (fun x=>decide (x.kind=0))=true
  · rw [if_pos h];exact hn
  · rw [if_neg h]
    exact he fun x hx e=>h (List.any_eq_true.2 ⟨x,hx,decide_eq_true e⟩)
theorem seqN_nf {l:List Rx} (h:∀ x∈l,Nf x):Nf (seqN l):=by
  refine seqN_cases Nf .none fun h0=>?_
  have hm:∀ y∈seqL l,Nf y∧y.kind≠0∧y.kind≠1∧y.kind≠3:=fun y hy=>by
    obtain ⟨x,hx,hy⟩:=List.mem_flatMap.1 hy
    exact seqF_nf (h x hx) (h0 x hx) hy
  unfold seqE
  split
  · exact .empty
  · split
    · exact (hm _ (kid_mem (by omega))).1
    · exact .seq (by omega) (fun x hx=>(hm x hx).1) fun x hx=>(hm x hx).2
theorem altF_nf {x y:Rx} (h:Nf x) (hy:y∈altF x):Nf y∧y.kind≠4:=by
  by_cases h4:x.kind=4
  · rw [altF_4 h4] at hy
    obtain ⟨_,_,h5,h6,_⟩:=h.k4 h4
    exact ⟨h5 y hy,(h6 y hy).2⟩
  · rw [altF_x h4, List.mem_singleton] at hy
    subst hy;exact ⟨h,h4⟩
theorem altL_nf {l:List Rx} (h:∀ x∈l,Nf x) {y:Rx} (hy:y∈altL l):Nf y∧y.kind≠4:=by
  obtain ⟨x,hx,hy⟩:=altL_mem.1 hy
  exact altF_nf (h x hx) hy
theorem uniI_ok {s:List Int} (h0:0<s.length) (h:∀ x∈s,0≤x∧x<64):setOk (uniI s)=true:=by
  refine setOk_iff.2 ⟨?_,uniI_srt s,fun x hx=>h x (uniI_mem.1 hx)⟩
  obtain ⟨x,hx⟩:=List.length_pos_iff_exists_mem.1 h0
  exact List.length_pos_iff_exists_mem.2 ⟨x,uniI_mem.2 hx⟩
theorem altS_ok {l:List Rx} (h:∀ x∈l,Nf x) {z:Int} (hz:z∈altS l):0≤z∧z<64:=by
  obtain ⟨x,hx,hk,hz⟩:=altS_mem.1 hz
  exact (setOk_iff.1 ((altL_nf h hx).1.k2 hk).2).2.2 z hz
theorem altD_nf {l:List Rx} (h:∀ x∈l,Nf x) {y:Rx} (hy:y∈altD l):Nf y∧y.kind≠0∧y.kind≠4:=by
  rw [altD_uni,uniR_mem,altM_mem] at hy
  rcases hy with hy|⟨h0,rfl⟩
  · have h1 := altK_mem.1 hy
    exact ⟨(altL_nf h h1.1).1,h1.2.1,(altL_nf h h1.1).2⟩
  · exact ⟨.set (uniI_ok h0 fun x hx=>altS_ok h hx),by show ¬ (2:Int)=0;decide,by show ¬ (2:Int)=4;decide⟩
theorem altD_two {l:List Rx} {x y:Rx} (hx:x∈altD l) (hy:y∈altD l) (h:x.kind=2) (h':y.kind=2):x=y:=by
  have q:∀ {z:Rx},z∈altD l→z.kind=2→z=.mk 2 (uniI (altS l)) []:=fun {z} hz hk=>by
    rw [altD_uni,uniR_mem,altM_mem] at hz
    rcases hz with hz|hz
    · exact absurd hk (altK_mem.1 hz).2.2
    · exact hz.2
  rw [q hx h,q hy h']
theorem cmp_kind {x y:Rx} (h:x.kind<y.kind):cmpR x y=-1:=by
  rw [cmpR_eq,orderI_lt h];rfl
theorem empty_first {l : List Rx} (hs : Srt leR l) (hn : ∀ x ∈ l, Nf x ∧ x.kind ≠ 0) {x : Rx} (hx : x ∈ l) (hk : x.kind = 1) : (l.getD 0 default) = x := by
  match l,hs,hn,hx with
  | y :: l, hs, hn, hx =>
    show y=x
    rcases List.mem_cons.1 hx with e|hx
    · exact e.symm
    · have h1 := (List.pairwise_cons.1 hs).1 x hx
      have h2:=(hn y List.mem_cons_self)
      have h3:=h2.1.kinds
      by_cases e:y.kind=1
      · rw [h2.1.k1 e,(hn x (List.mem_cons_of_mem _ hx)).1.k1 hk]
      · have h4 := cmp_kind (x := x) (y := y) (by have := h2.2; omega)
        have h5:=leR_iff.1 h1.1
        have:=cmpR_neg x y
        omega
theorem srt_drop {l:List Rx} (hs:Srt leR l) {x:Rx} (hx:x∈l.drop 1):x≠l.getD 0 default∧x∈l:=by
  match l,hs,hx with
  | [],_,hx=>cases hx
  | y :: l,hs,hx=>exact ⟨fun e=>((List.pairwise_cons.1 hs).1 x hx).2 e.symm,List.mem_cons_of_mem _ hx⟩
theorem mem_drop1 {l:List Rx} {x:Rx} (hx:x∈l) (h:x≠l.getD 0 default):x∈l.drop 1:=by
  match l,hx with
  | y :: l,hx=>exact (List.mem_cons.1 hx).elim (fun e=>absurd e h) id
theorem altC_nf {D:List Rx} (hs:Srt leR D) (hn:∀ x∈D,Nf x∧x.kind≠0∧x.kind≠4) (h2:∀ x∈D,∀ y∈D,x.kind=2→y.kind=2→x=y) :
    (∀ x∈altC D,x∈D)∧Srt leR (altC D)∧(∀ x∈altC D,x.kind=1→∀ y∈altC D,y.kind≠1→accR y=false):=by
  by_cases h:1<D.length∧(D.getD 0 default).kind=1∧(D.drop 1).any accR=true
  · rw [altC_t h.1 h.2.1 h.2.2]
    refine ⟨fun x hx=>List.mem_of_mem_drop hx,List.Pairwise.drop hs,fun x hx hk=>?_⟩
    have h3:=srt_drop hs hx
    exact absurd (empty_first hs (fun x hx=>⟨(hn x hx).1,(hn x hx).2.1⟩) h3.2 hk).symm h3.1
  · rw [altC_f h]
    refine ⟨fun x hx=>hx,hs,fun x hx hk y hy hy1=>?_⟩
    have e:=empty_first hs (fun x hx=>⟨(hn x hx).1,(hn x hx).2.1⟩) hx hk
    have hy2:y∈D.drop 1:=mem_drop1 hy fun q=>hy1 (by rw [q,e];exact hk)
    cases ha:accR y with
    | false=>rfl
    | true =>
      refine absurd ⟨?_,by rw [e];exact hk,List.any_eq_true.2 ⟨y,hy2,ha⟩⟩ h
      have:=List.length_pos_of_mem hy2
      rw [List.length_drop] at this;omega
theorem altE_nf {C:List Rx} (hs:Srt leR C) (hn:∀ x∈C,Nf x∧x.kind≠0∧x.kind≠4) (h2:∀ x∈C,∀ y∈C,x.kind=2→y.kind=2→x=y)
    (h1:∀ x∈C,x.kind=1→∀ y∈C,y.kind≠1→accR y=false):Nf (altE C):=by
  unfold altE
  split
  · exact .none
  · split
    · exact (hn _ (kid_mem (by omega))).1
    · exact .alt (by omega) (fun x hx=>(hn x hx).1) (fun x hx=>(hn x hx).2) hs h2 h1
theorem altN_nf {l:List Rx} (h:∀ x∈l,Nf x):Nf (altN l):=by
  have hn:=fun x hx=>altD_nf h (y:=x) hx
  have h2:=fun x hx y hy=>altD_two (l:=l) (x:=x) (y:=y) hx hy
  obtain ⟨q1,q2,q3⟩:=altC_nf (uniR_srt _) hn h2
  exact altE_nf q2 (fun x hx=>hn x (q1 x hx)) (fun x hx y hy=>h2 x (q1 x hx) y (q1 y hy)) q3
theorem accR_5 {x:Rx} (h:x.kind=5):accR x=true:=by rw [accR_eq,if_neg (by omega),if_neg (by omega)];exact decide_eq_true (.inr h)
theorem starB_nf {x : Rx} (h : Nf x) (hk : x.kind ≠ 0 ∧ x.kind ≠ 1 ∧ x.kind ≠ 5) : Nf (.mk 5 [] [starB x]) := by
  by_cases q:x.kind=4∧(x.kids.getD 0 default).kind=1
  · obtain ⟨e, h2, hn, hk4, hs, ht, ha⟩ := h.k4 q.1
    have hf:=hn _ (kid_mem (l:=x.kids) (i:=0) (by omega))
    have ha':=ha _ (kid_mem (l:=x.kids) (i:=0) (by omega)) q.2
    have hd:∀ y∈x.kids.drop 1,y.kind≠1:=fun y hy hy1=>by
      have h3:=srt_drop hs hy
      exact h3.1 (empty_first hs (fun x hx=>⟨hn x hx,(hk4 x hx).1⟩) h3.2 hy1).symm
    by_cases q2:x.kids.length=2
    · rw [starB_2 q q2]
      have hm:x.kids.getD 1 default∈x.kids:=kid_mem (by omega)
      have hm1:x.kids.getD 1 default∈x.kids.drop 1:=by rw [← getD_drop1];exact kid_mem (by rw [List.length_drop];omega)
      have h1:=hd _ hm1
      refine .star (hn _ hm) ⟨(hk4 _ hm).1,h1,fun h5=>?_⟩ fun h4=>absurd h4 (hk4 _ hm).2
      have:=ha' _ hm h1
      rw [accR_5 h5] at this;cases this
    · rw [starB_m q q2]
      have es:x.syms=[]:=by rw [e];rfl
      rw [q.1,es]
      refine .star (.alt (by rw [List.length_drop];omega) (fun y hy=>hn y (List.mem_of_mem_drop hy)) (fun y hy=>hk4 y (List.mem_of_mem_drop hy)) (List.Pairwise.drop hs)
        (fun y hy z hz=>ht y (List.mem_of_mem_drop hy) z (List.mem_of_mem_drop hz)) fun y hy hy1=>absurd hy1 (hd y hy)) ⟨by show ¬ (4:Int)=0;decide,by show ¬ (4:Int)=1;decide,by show ¬ (4:Int)=5;decide⟩ fun _=>hd
  · rw [starB_n q]
    refine .star h hk fun h4 y hy hy1=>q ⟨h4,?_⟩
    obtain ⟨e,h2,hn,hk4,hs,ht,ha⟩:=h.k4 h4
    rw [empty_first hs (fun x hx=>⟨hn x hx,(hk4 x hx).1⟩) hy hy1];exact hy1
theorem starN_nf {x:Rx} (h:Nf x):Nf (starN x):=by
  by_cases h1:x.kind=0∨x.kind=1
  · rw [starN_e h1];exact .empty
  · by_cases h5 : x.kind = 5
    · rw [starN_5 h5];exact h
    · rw [starN_x h1 h5];exact starB_nf h ⟨fun e=>h1 (.inl e),fun e=>h1 (.inr e),h5⟩
theorem rx_ind {P:Rx→Prop} (h:∀ r,(∀ x∈r.kids,P x)→P r) (r:Rx):P r:=by
  have:∀ n (r:Rx),r.size≤n→P r:=by
    intro n
    induction n with
    | zero=>intro r hr;have:=size_pos r;omega
    | succ n ih=>exact fun r hr=>h r fun x hx=>ih x (by have:=size_kid hx;omega)
  exact this _ r (Nat.le_refl _)
theorem valid_kids {r:Rx} (h:validR r=true):∀ x∈r.kids,validR x=true:=by
  intro x hx
  rw [validR_eq] at h
  split at h
  · cases h
  · split at h
    · rw [Bool.and_eq_true, decide_eq_true_eq] at h
      rw [List.eq_nil_of_length_eq_zero h.2] at hx;cases hx
    · split at h
      · cases h
      · rw [validRs_all,List.all_eq_true] at h;exact h x hx
theorem valid_kinds {r:Rx} (h:validR r=true):0≤r.kind∧r.kind≤5:=by
  rw [validR_eq] at h
  split at h
  · cases h
  · omega
theorem valid_5 {r:Rx} (h:validR r=true) (h5:r.kind=5):r.syms=[]∧r.kids.length=1:=by
  rw [validR_5 h5,Bool.and_eq_true,Bool.and_eq_true,decide_eq_true_eq,decide_eq_true_eq] at h
  exact ⟨List.eq_nil_of_length_eq_zero h.1,h.2.1⟩
theorem build_nf (t : Bool) (r : Rx) : validR r = true → Nf (buildR t r) := by
  refine rx_ind (P:=fun r=>validR r=true→Nf (buildR t r)) (fun r ih hv=>?_) r
  have hk:∀ x∈r.kids.map (buildR t),Nf x:=fun x hx=>by
    obtain ⟨y,hy,rfl⟩:=List.mem_map.1 hx
    exact ih y hy (valid_kids hv y hy)
  have hkk:=valid_kinds hv
  by_cases h3:r.kind=3
  · cases t with
    | false=>rw [buildR_3f h3];exact seqN_nf hk
    | true=>rw [buildR_3t h3];exact seqN_nf fun x hx=>hk x (List.mem_reverse.1 hx)
  · by_cases h4 : r.kind = 4
    · rw [buildR_4 h4];exact altN_nf hk
    · by_cases h5 : r.kind = 5
      · rw [buildR_5 h5];exact starN_nf (hk _ (kid_mem (by rw [List.length_map,(valid_5 hv h5).2];decide)))
      · rw [buildR_x h3 h4 h5]
        by_cases h2:r.kind=2
        · rw [validR_2 h2, Bool.and_eq_true] at hv
          rw [h2];exact .set hv.2
        · have h01 : r.kind = 0 ∨ r.kind = 1 := by omega
          rw [validR_01 h01,Bool.and_eq_true,decide_eq_true_eq] at hv
          rw [List.eq_nil_of_length_eq_zero hv.1]
          rcases h01 with e|e<;>rw [e]
          · exact .none
          · exact .empty
end Go.Wb

namespace Go.Wb
open Go.Am
theorem sizes_seqF (x:Rx):Rx.sizes (seqF x)≤x.size:=by
  unfold seqF
  split
  · have:=size_eq x;omega
  · split
    · have : Rx.sizes [] = 0 := rfl
      omega
    · rw [Rx.sizes,Rx.sizes];omega
theorem sizes_seqL:∀ l:List Rx,Rx.sizes (seqL l)≤Rx.sizes l
  | []=>Nat.le_refl _
  | x :: l => by
    have:=sizes_seqL l
    have:=sizes_seqF x
    have e:seqL (x :: l)=seqF x++seqL l:=rfl
    rw [e,sizes_append,Rx.sizes];omega
theorem size_mk (k:Int) (s:List Int) (l:List Rx):(Rx.mk k s l).size=1+s.length+Rx.sizes l:=by rw [Rx.size]
theorem size_seqN (l:List Rx):(seqN l).size≤1+Rx.sizes l:=by
  have h:=sizes_seqL l
  refine seqN_cases (fun r=>r.size≤1+Rx.sizes l) (by rw [size_mk];simp only [List.length_nil,Rx.sizes];omega) fun _=>?_
  unfold seqE
  split
  · rw [size_mk];simp only [List.length_nil,Rx.sizes];omega
  · split
    · have:=size_mem (kid_mem (l:=seqL l) (i:=0) (by omega));omega
    · rw [size_mk];simp only [List.length_nil];omega
theorem sizes_sublist {l m:List Rx} (h:l.Sublist m):Rx.sizes l≤Rx.sizes m:=by
  induction h with
  | slnil=>exact Nat.le_refl _
  | cons x _ ih=>rw [Rx.sizes];omega
  | cons_cons x _ ih=>rw [Rx.sizes,Rx.sizes];omega
theorem cptN_sub {α:Type} [Inhabited α] {eq:α→α→Bool} {l:List α}:∀ i,i≤l.length→(cptN eq l i).Sublist (l.take i)
  | 0,_=>by rw [cptN];exact List.nil_sublist _
  | i + 1, h => by
    rw [cptN,take_succ' h]
    have:=cptN_sub (eq:=eq) (l:=l) i (by omega)
    split
    · exact this.trans (List.sublist_append_left _ _)
    · exact this.append (List.Sublist.refl _)
theorem sizes_altD (l:List Rx):Rx.sizes (altD l)≤1+Rx.sizes l:=by
  have h1:=sizes_sublist (cptN_sub (eq:=eqR) (l:=sortR (altM (altS l) (altK l))) _ (Nat.le_refl _))
  rw [List.take_length] at h1
  have h2:Rx.sizes (sortR (altM (altS l) (altK l)))=Rx.sizes (altM (altS l) (altK l)):=sizes_perm (isort_perm _)
  have h3:=altM_sizes (altS l) (altK l)
  have h4:=alt_bd l
  show Rx.sizes (cptN _ _ _)≤_
  omega
theorem sizes_altC (k:List Rx):Rx.sizes (altC k)≤Rx.sizes k:=by
  unfold altC
  split
  · exact sizes_sublist (List.drop_sublist _ _)
  · exact Nat.le_refl _
theorem size_altN (l:List Rx):(altN l).size≤2+Rx.sizes l:=by
  have h:=sizes_altC (altD l)
  have h1:=sizes_altD l
  unfold altN altE
  split
  · rw [size_mk];simp only [List.length_nil,Rx.sizes];omega
  · split
    · have:=size_mem (kid_mem (l:=altC (altD l)) (i:=0) (by omega));omega
    · rw [size_mk];simp only [List.length_nil];omega
theorem size_starB (x:Rx):(starB x).size≤x.size:=by
  unfold starB
  split
  · split
    · exact Nat.le_of_lt (size_kid (kid_mem (by omega)))
    · rw [size_mk, size_eq x]
      have:=sizes_sublist (List.drop_sublist 1 x.kids)
      omega
  · exact Nat.le_refl _
theorem size_starN (x:Rx):(starN x).size≤1+x.size:=by
  unfold starN
  split
  · rw [size_mk];simp only [List.length_nil,Rx.sizes];omega
  · split
    · omega
    · have := size_starB x
      rw [size_mk];simp only [List.length_nil,Rx.sizes];omega
theorem sizes_rev (l:List Rx):Rx.sizes l.reverse=Rx.sizes l:=sizes_perm (List.reverse_perm l)
theorem sizes_map_le {f:Rx→Rx}:∀ {l:List Rx},(∀ x∈l,(f x).size≤2*x.size)→Rx.sizes (l.map f)≤2*Rx.sizes l
  | [],_=>Nat.le_refl _
  | x :: l, h => by
    have h1:=sizes_map_le (l:=l) fun y hy=>h y (List.mem_cons_of_mem _ hy)
    have h2:=h x List.mem_cons_self
    rw [List.map_cons,Rx.sizes,Rx.sizes];omega
theorem size_build (t : Bool) (r : Rx) : (buildR t r).size ≤ 2 * r.size := by
  refine rx_ind (P:=fun r=>(buildR t r).size≤2*r.size) (fun r ih=>?_) r
  have hm:=sizes_map_le ih
  have e:=size_eq r
  by_cases h3:r.kind=3
  · cases t with
    | false=>rw [buildR_3f h3];have:=size_seqN (r.kids.map (buildR false));omega
    | true=>rw [buildR_3t h3];have:=size_seqN (r.kids.map (buildR true)).reverse;rw [sizes_rev] at this;omega
  · by_cases h4 : r.kind = 4
    · rw [buildR_4 h4];have:=size_altN (r.kids.map (buildR t));omega
    · by_cases h5 : r.kind = 5
      · rw [buildR_5 h5]
        have:=size_starN ((r.kids.map (buildR t)).getD 0 default)
        by_cases h0:0<r.kids.length
        · have := size_mem (kid_mem (l := r.kids.map (buildR t)) (i := 0) (by rw [List.length_map]; exact h0))
          omega
        · rw [List.eq_nil_of_length_eq_zero (l := r.kids) (by omega)] at this ⊢
          have h6:((List.map (buildR t) []).getD 0 default).size=1:=rfl
          omega
      · rw [buildR_x h3 h4 h5,size_mk];simp only [Rx.sizes];omega
theorem sizes_build (t:Bool) (l:List Rx):Rx.sizes (l.map (buildR t))≤2*Rx.sizes l:=sizes_map_le fun x _=>size_build t x
end Go.Wb

