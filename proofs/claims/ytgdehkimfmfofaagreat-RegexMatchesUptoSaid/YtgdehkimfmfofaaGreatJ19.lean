/-
  Plain functions: a weight of expressions that normal forms do not make greater;shaped expressions have little weight.
-/
import Derived.Test.YtgdehkimfmfofaaGreatJ15
import Derived.Test.YtgdehkimfmfofaaGreatJ18
set_option linter.unusedVariables false
set_option linter.unusedSectionVars false
set_option linter.unusedSimpArgs false
namespace Go.Wb
open Go.Am
def sufs:List Int→List (List Int)
  | []=>[[]]
  | a :: v=>(a :: v) :: sufs v
def sufp:List Int→List (List Int)
  | []=>[]
  | a :: v=>(a :: v) :: sufp v
theorem sufs_snoc (b:Int):∀ {u v:List Int},u∈sufs v→u++[b]∈sufs (v++[b])
  | u, [], h => by
    rw [sufs,List.mem_singleton] at h
    subst h
    rw [List.nil_append,sufs];exact List.mem_cons_self
  | u, a :: v, h => by
    rw [sufs] at h
    rw [List.cons_append,sufs]
    rcases List.mem_cons.1 h with rfl|h
    · exact List.mem_cons_self
    · exact List.mem_cons_of_mem _ (sufs_snoc b h)
theorem sufp_snoc (b:Int):∀ {u v:List Int},u∈sufp v→u++[b]∈sufp (v++[b])
  | u,[],h=>by rw [sufp] at h;cases h
  | u, a :: v, h => by
    rw [sufp] at h
    rw [List.cons_append,sufp]
    rcases List.mem_cons.1 h with rfl|h
    · exact List.mem_cons_self
    · exact List.mem_cons_of_mem _ (sufp_snoc b h)
theorem sufs_nil:∀ v:List Int,[]∈sufs v
  | []=>by rw [sufs];exact List.mem_cons_self
  | a :: v=>by rw [sufs];exact List.mem_cons_of_mem _ (sufs_nil v)
theorem sufs_one (b:Int) (v:List Int):[b]∈sufs (v++[b]):=sufs_snoc b (sufs_nil v)
theorem sufp_one (b:Int):∀ v:List Int,[b]∈sufp (v++[b])
  | []=>by rw [List.nil_append,sufp];exact List.mem_cons_self
  | a :: v=>by rw [List.cons_append,sufp];exact List.mem_cons_of_mem _ (sufp_one b v)
theorem snoc_ind {P:List Int→Prop} (h0:P []) (hs:∀ v b,P v→P (v++[b])):∀ v,P v:=fun v=>by
  have:∀ w:List Int,P w.reverse:=by
    intro w
    induction w with
    | nil=>exact h0
    | cons a w ih=>rw [List.reverse_cons];exact hs _ _ ih
  have h:=this v.reverse
  rwa [List.reverse_reverse] at h
def Dv (x:Rx) (v:List Int):Rx:=v.foldl (fun t b=>dR b t) x
theorem Dv_nil (x:Rx):Dv x []=x:=rfl
theorem Dv_snoc (x:Rx) (v:List Int) (b:Int):Dv x (v++[b])=dR b (Dv x v):=by unfold Dv;rw [List.foldl_append];rfl
theorem Dv_nf {x:Rx} (h:Nf x):∀ v,Nf (Dv x v):=snoc_ind h fun v b ih=>by rw [Dv_snoc];exact dR_nf b ih
def als (t:Rx):List Rx:=(altF t).filter fun a=>decide (3≤a.kind)
theorem als_mem {t a:Rx}:a∈als t↔a∈altF t∧3≤a.kind:=by unfold als;rw [List.mem_filter,decide_eq_true_eq]
theorem als_nf {t a:Rx} (h:Nf t) (ha:a∈als t):Nf a∧(a.kind=3∨a.kind=5):=by
  have h1:=als_mem.1 ha
  have h2:=altF_nf h h1.1
  have h3:=h2.1.kinds
  exact ⟨h2.1,by omega⟩
theorem als_x {t a:Rx} (h4:t.kind≠4) (ha:a∈als t):a=t∧3≤t.kind:=by
  have h1:=als_mem.1 ha
  rw [altF_x h4,List.mem_singleton] at h1
  exact ⟨h1.1,h1.1 ▸ h1.2⟩
theorem als_self {t:Rx} (h:t.kind=3∨t.kind=5):t∈als t:=als_mem.2 ⟨by rw [altF_x (by omega)];exact List.mem_cons_self,by omega⟩
theorem altN_als {l : List Rx} (h : ∀ x ∈ l, Nf x) {a : Rx} (ha : a ∈ als (altN l)) : ∃ y ∈ l, a ∈ als y := by
  obtain ⟨h1,h2⟩:=als_mem.1 ha
  have h3:∀ x∈altC (altD l),x∈altD l:=(altC_nf (uniR_srt _) (fun x hx=>altD_nf h hx) fun x hx y hy=>altD_two (l:=l) hx hy).1
  have h4:a∈altC (altD l):=by
    unfold altN altE at h1
    split at h1
    · rw [altF_x (by decide), List.mem_singleton] at h1
      rw [h1] at h2;exact absurd h2 (by decide)
    · next q =>
      split at h1
      · next q1 =>
        have hm:(altC (altD l)).getD 0 default∈altC (altD l):=kid_mem (by omega)
        rw [altF_x (altD_nf h (h3 _ hm)).2.2,List.mem_singleton] at h1
        rw [h1];exact hm
      · rw [altF_4 rfl] at h1;exact h1
  have h5:=altD_mem (h3 _ h4)
  rw [altM_mem] at h5
  rcases h5 with h5|h5
  · obtain ⟨y, hy, hm⟩ := altL_mem.1 (altK_mem.1 h5).1
    exact ⟨y,hy,als_mem.2 ⟨hm,h2⟩⟩
  · rw [h5.2] at h2;exact absurd h2 (by show ¬ (3:Int)≤2;decide)
theorem seqN_kinds {l:List Rx} (h:(seqN l).kind≠0):∀ x∈l,x.kind≠0:=fun x hx e=>h (by
  unfold seqN;rw [if_pos (List.any_eq_true.2 ⟨x,hx,decide_eq_true e⟩)];rfl)
theorem seqF_seqN {l:List Rx} (hl:∀ x∈l,Nf x) (h0:(seqN l).kind≠0):seqF (seqN l)=seqL l:=by
  have hk:=seqN_kinds h0
  have hm:∀ y∈seqL l,y.kind≠0∧y.kind≠1∧y.kind≠3:=fun y hy=>by
    obtain ⟨x,hx,hy⟩:=List.mem_flatMap.1 hy
    exact (seqF_nf (hl x hx) (hk x hx) hy).2
  rw [seqN_some fun j hj=>hk _ (kid_mem hj)]
  generalize hs:seqL l=s at hm ⊢
  match s with
  | []=>rfl
  | [y]=>exact seqF_x (hm y List.mem_cons_self).2.2 (hm y List.mem_cons_self).2.1
  | y :: z :: s=>rw [seqE_2 (by simp) (by simp)];rfl
def stp (b:Int):List Rx→List (List Rx)
  | []=>[]
  | x :: l=>if (dR b x).kind=0 then stp b l else (seqF (dR b x)++l) :: stp b l
theorem stp_get {b:Int}:∀ {l:List Rx} {i:Nat},i<l.length→(dR b (l.getD i default)).kind≠0→seqF (dR b (l.getD i default))++l.drop (i+1)∈stp b l
  | x :: l, 0, _, hk => by
    rw [stp,if_neg (show ¬ (dR b x).kind=0 from hk)];exact List.mem_cons_self
  | x :: l, i + 1, hi, hk => by
    have h:=stp_get (b:=b) (l:=l) (i:=i) (by simpa using hi) hk
    rw [stp]
    split
    · exact h
    · exact List.mem_cons_of_mem _ h
theorem stp_mem {b:Int}:∀ {l L:List Rx},L∈stp b l→∃ pre x R,l=pre++x :: R∧(dR b x).kind≠0∧L=seqF (dR b x)++R
  | [],L,h=>by rw [stp] at h;cases h
  | x :: l, L, h => by
    have step:L∈stp b l→∃ pre y R,x :: l=pre++y :: R∧(dR b y).kind≠0∧L=seqF (dR b y)++R:=fun h=>by
      obtain ⟨pre,y,R,e,hk,hL⟩:=stp_mem h
      exact ⟨x :: pre,y,R,by rw [e];rfl,hk,hL⟩
    rw [stp] at h
    split at h
    · exact step h
    · next hk =>
      rcases List.mem_cons.1 h with rfl|h
      · exact ⟨[],x,l,rfl,hk,rfl⟩
      · exact step h
theorem stp_app {b : Int} {R : List Rx} : ∀ {l L : List Rx}, L ∈ stp b (l ++ R) → (∃ M ∈ stp b l, L = M ++ R) ∨ L ∈ stp b R
  | [],L,h=>.inr h
  | x :: l, L, h => by
    have step:L∈stp b (l++R)→(∃ M∈stp b (x :: l),L=M++R)∨L∈stp b R:=fun h=>by
      rcases stp_app h with ⟨M,hM,e⟩|h
      · refine .inl ⟨M, ?_, e⟩
        rw [stp];split
        · exact hM
        · exact List.mem_cons_of_mem _ hM
      · exact .inr h
    rw [List.cons_append,stp] at h
    split at h
    · exact step h
    · next hk =>
      rcases List.mem_cons.1 h with rfl|h
      · refine .inl ⟨seqF (dR b x) ++ l, ?_, by rw [List.append_assoc]⟩
        rw [stp,if_neg hk];exact List.mem_cons_self
      · exact step h
theorem als_G {t c:Rx} (h:c∈als t):seqF c=seqF t∨(seqF t=[t]∧t.kind=4∧c∈als t):=by
  by_cases h4:t.kind=4
  · exact .inr ⟨seqF_x (by omega) (by omega),h4,h⟩
  · rw [(als_x h4 h).1];exact .inl rfl
theorem kind_als {t c:Rx} (h:c∈als t):t.kind≠0:=fun e=>by
  have:=(als_x (by omega) h).2;omega
theorem dRq_nf {b:Int} {l:List Rx} (h:∀ x∈l,Nf x):∀ y∈dRq b l,Nf y:=fun y hy=>by
  obtain ⟨i,hi,rfl⟩:=dRq_mem hy
  refine seqN_nf fun z hz=>?_
  rcases List.mem_cons.1 hz with rfl|hz
  · exact dR_nf b (h _ (kid_mem hi))
  · rw [List.mem_singleton.1 hz];exact seqN_nf fun u hu=>h u (List.mem_of_mem_drop hu)
theorem dQ_F {b:Int} {l:List Rx} {i:Nat} (hi:i<l.length) (hn:∀ x∈l,Nf x) (hk:∀ x∈l,x.kind≠0∧x.kind≠1∧x.kind≠3) (h0:(dQ b l i).kind≠0) :
    seqF (dQ b l i)=seqF (dR b (l.getD i default))++l.drop (i+1)∧(dR b (l.getD i default)).kind≠0:=by
  have hd:Nf (seqN (l.drop (i+1))):=seqN_nf fun u hu=>hn u (List.mem_of_mem_drop hu)
  have h1:=seqN_kinds (l:=[dR b (l.getD i default),seqN (l.drop (i+1))]) h0
  have h2:=h1 _ List.mem_cons_self
  have h3:=h1 _ (List.mem_cons_of_mem _ List.mem_cons_self)
  refine ⟨?_,h2⟩
  have e:seqF (dQ b l i)=seqL [dR b (l.getD i default),seqN (l.drop (i+1))]:=seqF_seqN (fun z hz=>by
    rcases List.mem_cons.1 hz with rfl|hz
    · exact dR_nf b (hn _ (kid_mem hi))
    · rw [List.mem_singleton.1 hz];exact hd) h0
  rw [e]
  show seqF _++(seqF _++[])=_
  rw [List.append_nil,seqF_seqN (fun u hu=>hn u (List.mem_of_mem_drop hu)) h3,seqL_self fun x hx=>(hk x (List.mem_of_mem_drop hx)).2]
theorem stp_als {a:Rx} (ha:Nf a) (hk:a.kind=3∨a.kind=5) {b:Int} {c:Rx} (hc:c∈als (dR b a)) :
    seqF c∈stp b (seqF a)∨∃ z,[z]∈stp b (seqF a)∧z.kind=4∧c∈als z:=by
  rcases hk with hk|hk
  · obtain ⟨e, h2, hn, hkk⟩ := ha.k3 hk
    have hd:dR b a=altN (dRq b a.kids):=by rw [dR_x (by omega) (by omega),dL_3 hk]
    rw [hd] at hc
    obtain ⟨y,hy,hcy⟩:=altN_als (dRq_nf hn) hc
    obtain ⟨i,hi,rfl⟩:=dRq_mem hy
    have h3:=dQ_F hi hn hkk (kind_als hcy)
    have h4:=stp_get hi h3.2
    rw [← h3.1] at h4
    rw [seqF_3 hk]
    rcases als_G hcy with q|⟨q,q4,qc⟩
    · exact .inl (by rw [q];exact h4)
    · exact .inr ⟨_,by rw [← q];exact h4,q4,qc⟩
  · have h4 : seqF (dR b a) ∈ stp b (seqF a) := by
      rw [seqF_x (x:=a) (by omega) (by omega),stp,if_neg (kind_als hc),List.append_nil];exact List.mem_cons_self
    rcases als_G hc with q|⟨q,q4,qc⟩
    · exact .inl (by rw [q];exact h4)
    · exact .inr ⟨_,by rw [← q];exact h4,q4,qc⟩
theorem als_next {t:Rx} (ht:Nf t) {b:Int} {c:Rx} (hc:c∈als (dR b t)):∃ a∈als t,c∈als (dR b a):=by
  have low:∀ x:Rx,Nf x→x.kind≤2→¬ c∈als (dR b x):=fun x hx h2 h=>by
    have hkk:=hx.kinds
    by_cases q:x.kind=2
    · rw [dR_eq, if_pos q] at h
      split at h
      · exact absurd (als_x (by decide) h).2 (by decide)
      · exact absurd (als_x (by decide) h).2 (by decide)
    · rw [dR_x (by omega) (fun e => absurd e q), dL_x (by omega) (by omega), altN_nil] at h
      exact absurd (als_x (by decide) h).2 (by decide)
  have hkk:=ht.kinds
  by_cases h4:t.kind=4
  · obtain ⟨e, h2, hn, hk, _⟩ := ht.k4 h4
    rw [dR_x (by omega) (by omega),dL_4 h4] at hc
    obtain ⟨y,hy,hcy⟩:=altN_als (fun y hy=>by
      obtain ⟨z,hz,rfl⟩:=List.mem_map.1 hy
      exact dR_nf b (hn z hz)) hc
    obtain ⟨z,hz,rfl⟩:=List.mem_map.1 hy
    refine ⟨z,als_mem.2 ⟨by rw [altF_4 h4];exact hz,?_⟩,hcy⟩
    by_cases q:3≤z.kind
    · exact q
    · exact absurd hcy (low z (hn z hz) (by omega))
  · by_cases q : 3 ≤ t.kind
    · exact ⟨t,als_self (by omega),hc⟩
    · exact absurd hc (low t ht (by omega))
def cv (x:Rx) (u:List Int) (T:List (List Rx)):List (List Rx):=if x.kind=5 then T else seqF (Dv x u) :: T
mutual
def covT:Rx→List Int→List (List Rx)
  | .mk k s l,v=>if k=4 then covA l v else if k=3 then covQ l v else if k=5 then [.mk k s l] :: covS l v (.mk k s l) else []
def covA:List Rx→List Int→List (List Rx)
  | [],_=>[]
  | x :: l,v=>covT x v++covA l v
def covQ:List Rx→List Int→List (List Rx)
  | [],_=>[]
  | x :: l,v=>(sufs v).flatMap (fun u=>(cv x u (covT x u)).map (·++l))++covQ l v
def covS:List Rx→List Int→Rx→List (List Rx)
  | [],_,_=>[]
  | x :: _,v,r=>(sufp v).flatMap fun u=>(cv x u (covT x u)).map (·++[r])
end
theorem covT_eq (x:Rx) (v:List Int):covT x v=if x.kind=4 then covA x.kids v else if x.kind=3 then covQ x.kids v else if x.kind=5 then [x] :: covS x.kids v x else []:=by
  cases x with|mk k s l=>rw [covT];rfl
theorem covT_4 {x:Rx} (h:x.kind=4) (v:List Int):covT x v=covA x.kids v:=by rw [covT_eq,if_pos h]
theorem covT_3 {x:Rx} (h:x.kind=3) (v:List Int):covT x v=covQ x.kids v:=by rw [covT_eq,if_neg (by omega),if_pos h]
theorem covT_5 {x:Rx} (h:x.kind=5) (v:List Int):covT x v=[x] :: covS x.kids v x:=by rw [covT_eq,if_neg (by omega),if_neg (by omega),if_pos h]
theorem covT_x {x:Rx} (h3:x.kind≠3) (h4:x.kind≠4) (h5:x.kind≠5) (v:List Int):covT x v=[]:=by rw [covT_eq,if_neg h4,if_neg h3,if_neg h5]
theorem covA_mem {L:List Rx} {v:List Int}:∀ {l:List Rx},L∈covA l v↔∃ x∈l,L∈covT x v
  | []=>by rw [covA];simp
  | x :: l=>by rw [covA,List.mem_append,covA_mem];simp
theorem covQ_mem {L : List Rx} {v : List Int} : ∀ {l : List Rx}, L ∈ covQ l v ↔ ∃ pre x R, l = pre ++ x :: R ∧ ∃ u ∈ sufs v, ∃ M ∈ cv x u (covT x u), L = M ++ R
  | [] => by
    rw [covQ]
    exact ⟨fun h=>(by cases h),fun ⟨pre,x,R,e,_⟩=>absurd e (by cases pre<;>simp)⟩
  | y :: l => by
    rw [covQ,List.mem_append,covQ_mem]
    constructor
    · rintro (h | ⟨pre, x, R, e, h⟩)
      · obtain ⟨u, hu, h⟩ := List.mem_flatMap.1 h
        obtain ⟨M,hM,e⟩:=List.mem_map.1 h
        exact ⟨[],y,l,rfl,u,hu,M,hM,e.symm⟩
      · exact ⟨y :: pre,x,R,by rw [e];rfl,h⟩
    · rintro ⟨pre, x, R, e, h⟩
      match pre,e with
      | [], e =>
        obtain ⟨rfl,rfl⟩:=List.cons.inj e
        obtain ⟨u,hu,M,hM,hL⟩:=h
        exact .inl (List.mem_flatMap.2 ⟨u,hu,List.mem_map.2 ⟨M,hM,hL.symm⟩⟩)
      | z :: pre, e =>
        obtain ⟨rfl,rfl⟩:=List.cons.inj e
        exact .inr ⟨pre,x,R,rfl,h⟩
theorem covS_mem {L:List Rx} {v:List Int} {x r:Rx}:L∈covS [x] v r↔∃ u∈sufp v,∃ M∈cv x u (covT x u),L=M++[r]:=by
  rw [covS,List.mem_flatMap]
  constructor
  · rintro ⟨u, hu, h⟩
    obtain ⟨M,hM,e⟩:=List.mem_map.1 h
    exact ⟨u,hu,M,hM,e.symm⟩
  · rintro ⟨u, hu, M, hM, e⟩
    exact ⟨u,hu,List.mem_map.2 ⟨M,hM,e.symm⟩⟩
structure Cov (x:Rx):Prop where
  base:∀ a∈als x,seqF a∈covT x []
  exp:∀ v z,[z]∈covT x v→z.kind=4→∀ a∈als z,seqF a∈covT x v
  step:∀ v b L L',L∈covT x v→L'∈stp b L→L'∈covT x (v++[b])
  all:∀ v a,a∈als (Dv x v)→seqF a∈covT x v
theorem Cov.mk' {x:Rx} (hx:Nf x) (base:∀ a∈als x,seqF a∈covT x []) (exp:∀ v z,[z]∈covT x v→z.kind=4→∀ a∈als z,seqF a∈covT x v)
    (step:∀ v b L L',L∈covT x v→L'∈stp b L→L'∈covT x (v++[b])):Cov x:=by
  refine ⟨base,exp,step,snoc_ind (P:=fun v=>∀ a,a∈als (Dv x v)→seqF a∈covT x v) base fun v b ih c hc=>?_⟩
  rw [Dv_snoc] at hc
  obtain ⟨a,ha,hca⟩:=als_next (Dv_nf hx v) hc
  have h1:=als_nf (Dv_nf hx v) ha
  have h2:=ih a ha
  rcases stp_als h1.1 h1.2 hca with h3|⟨z,h3,h4,h5⟩
  · exact step v b _ _ h2 h3
  · exact exp _ z (step v b _ _ h2 h3) h4 c h5
theorem cv_T {x:Rx} {u:List Int} {T:List (List Rx)} {M:List Rx} (h:M∈T):M∈cv x u T:=by
  unfold cv;split
  · exact h
  · exact List.mem_cons_of_mem _ h
theorem cv_D {x:Rx} {u:List Int} {T:List (List Rx)} (h:x.kind≠5):seqF (Dv x u)∈cv x u T:=by
  unfold cv;rw [if_neg h];exact List.mem_cons_self
theorem cv_step {x : Rx} (hx : Nf x) (hc : Cov x) {u : List Int} {b : Int} {M M' : List Rx} (hM : M ∈ cv x u (covT x u)) (h : M' ∈ stp b M) : M' ∈ cv x (u ++ [b]) (covT x (u ++ [b])) := by
  by_cases hT:M∈covT x u
  · exact cv_T (hc.step u b _ _ hT h)
  · unfold cv at hM
    by_cases h5:x.kind=5
    · rw [if_pos h5] at hM;exact absurd hM hT
    · rw [if_neg h5] at hM
      rcases List.mem_cons.1 hM with rfl|hM
      · by_cases k3 : (Dv x u).kind = 3
        · exact absurd (hc.all u _ (als_self (.inl k3))) hT
        · by_cases k1 : (Dv x u).kind = 1
          · rw [seqF_1 k1,stp] at h;cases h
          · rw [seqF_x k3 k1, stp, stp] at h
            split at h
            · cases h
            · rw [List.append_nil, List.mem_singleton] at h
              rw [h,← Dv_snoc];exact cv_D h5
      · exact absurd hM hT
theorem cv_one {x:Rx} (hx:Nf x) (hc:Cov x) {b:Int} (h0:(dR b x).kind≠0):seqF (dR b x)∈cv x [b] (covT x [b]):=by
  by_cases h5:x.kind=5
  · refine cv_T (hc.step [] b [x] _ ?_ ?_)
    · rw [covT_5 h5];exact List.mem_cons_self
    · rw [stp,if_neg h0,List.append_nil];exact List.mem_cons_self
  · exact cv_D (x:=x) (u:=[b]) h5
theorem one_app {M R:List Rx} {z:Rx} (h:[z]=M++R):(M=[]∧R=[z])∨(M=[z]∧R=[]):=by
  match M,h with
  | [],h=>exact .inl ⟨rfl,h.symm⟩
  | [y],h=>obtain ⟨rfl,e⟩:=List.cons.inj h;exact .inr ⟨rfl,e.symm⟩
  | y :: y' :: M,h=>obtain ⟨_,e⟩:=List.cons.inj h;cases e
theorem seqF_one {t z:Rx} (ht:Nf t) (h:seqF t=[z]):t=z:=by
  by_cases k3:t.kind=3
  · have := (ht.k3 k3).2.1
    rw [seqF_3 k3] at h
    rw [h] at this;exact absurd this (by simp)
  · by_cases k1 : t.kind = 1
    · rw [seqF_1 k1] at h;cases h
    · rw [seqF_x k3 k1] at h;exact (List.cons.inj h).1
theorem cov_nf {x : Rx} (h : Nf x) : Cov x := by
  have low:∀ x:Rx,Nf x→x.kind≤2→Cov x:=fun x hx h2=>by
    have e:∀ v,covT x v=[]:=covT_x (by omega) (by omega) (by omega)
    refine Cov.mk' hx (fun a ha=>?_) (fun v z hz=>?_) fun v b L L' hL=>?_
    · have:=(als_x (by omega) ha).2;omega
    · rw [e] at hz;cases hz
    · rw [e] at hL;cases hL
  induction h with
  | none=>exact low _ .none (by decide)
  | empty=>exact low _ .empty (by decide)
  | set h=>exact low _ (.set h) (by show (2:Int)≤2;decide)
  | @seq l h2 hn hk ih =>
    have hx:=Nf.seq h2 hn hk
    have e:∀ v,covT (.mk 3 [] l) v=covQ l v:=covT_3 rfl
    refine Cov.mk' hx (fun a ha=>?_) (fun v z hz h4 a ha=>?_) fun v b L L' hL hL'=>?_
    · rw [(als_x (by show ¬ (3 : Int) = 4; decide) ha).1, e, seqF_3 rfl]
      show l∈_
      match l,h2,hk,ih with
      | y :: l, h2, hk, ih =>
        refine covQ_mem.2 ⟨[],y,l,rfl,[],sufs_nil _,[y],?_,rfl⟩
        by_cases h5:y.kind=5
        · exact cv_T (by rw [covT_5 h5];exact List.mem_cons_self)
        · have := cv_D (x := y) (u := []) (T := covT y []) h5
          rwa [Dv_nil,seqF_x (hk y List.mem_cons_self).2.2 (hk y List.mem_cons_self).2.1] at this
    · rw [e] at hz ⊢
      obtain ⟨pre,y,R,el,u,hu,M,hM,eM⟩:=covQ_mem.1 hz
      have hy:y∈l:=by rw [el];simp
      have hc:=ih y hy
      rcases one_app eM with ⟨rfl,rfl⟩|⟨rfl,rfl⟩
      · have hz' : z ∈ l := by rw [el]; simp
        refine covQ_mem.2 ⟨pre++[y],z,[],by rw [el];simp,[],sufs_nil _,seqF a,cv_T ((ih z hz').base a ha),by rw [List.append_nil]⟩
      · refine covQ_mem.2 ⟨pre, y, [], el, u, hu, seqF a, cv_T ?_, by rw [List.append_nil]⟩
        by_cases hT:[z]∈covT y u
        · exact hc.exp u z hT h4 a ha
        · unfold cv at hM
          by_cases h5:y.kind=5
          · rw [if_pos h5] at hM;exact absurd hM hT
          · rw [if_neg h5] at hM
            rcases List.mem_cons.1 hM with e1|hM
            · have := seqF_one (Dv_nf (hn y hy) u) e1.symm
              exact hc.all u a (by rw [this];exact ha)
            · exact absurd hM hT
    · rw [e] at hL ⊢
      obtain ⟨pre,y,R,el,u,hu,M,hM,rfl⟩:=covQ_mem.1 hL
      have hy:y∈l:=by rw [el];simp
      rcases stp_app hL' with ⟨M',hM',rfl⟩|hR
      · exact covQ_mem.2 ⟨pre,y,R,el,u++[b],sufs_snoc b hu,M',cv_step (hn y hy) (ih y hy) hM hM',rfl⟩
      · obtain ⟨pre', z, R', eR, h0, rfl⟩ := stp_mem hR
        have hz:z∈l:=by rw [el,eR];simp
        exact covQ_mem.2 ⟨pre++y :: pre',z,R',by rw [el,eR];simp,[b],sufs_one b v,_,cv_one (hn z hz) (ih z hz) h0,rfl⟩
  | @alt l h2 hn hk h4 h5 h6 ih =>
    have hx:=Nf.alt h2 hn hk h4 h5 h6
    have e:∀ v,covT (.mk 4 [] l) v=covA l v:=covT_4 rfl
    refine Cov.mk' hx (fun a ha=>?_) (fun v z hz h4 a ha=>?_) fun v b L L' hL hL'=>?_
    · rw [e]
      have h1:=als_mem.1 ha
      rw [altF_4 rfl] at h1
      have ha':a∈l:=h1.1
      have hkk:=(hn a ha').kinds
      have:=hk a ha'
      exact covA_mem.2 ⟨a,ha',(ih a ha').base a (als_self (by omega))⟩
    · rw [e] at hz ⊢
      obtain ⟨y,hy,h⟩:=covA_mem.1 hz
      exact covA_mem.2 ⟨y,hy,(ih y hy).exp v z h h4 a ha⟩
    · rw [e] at hL ⊢
      obtain ⟨y,hy,h⟩:=covA_mem.1 hL
      exact covA_mem.2 ⟨y,hy,(ih y hy).step v b L L' h hL'⟩
  | @star y hn hk h4 hc =>
    have hx:=Nf.star hn hk h4
    have e:∀ v,covT (.mk 5 [] [y]) v=[.mk 5 [] [y]] :: covS [y] v (.mk 5 [] [y]):=covT_5 rfl
    have hself:∀ v b L',L'∈stp b [Rx.mk 5 [] [y]]→L'∈covT (.mk 5 [] [y]) (v++[b]):=fun v b L' h=>by
      rw [stp,stp] at h
      split at h
      · cases h
      · next h0 =>
        rw [List.append_nil,List.mem_singleton] at h
        have ed:dR b (.mk 5 [] [y])=seqN [dR b y,.mk 5 [] [y]]:=dR_5k rfl (by show 0<1;decide)
        rw [ed] at h h0
        have hk0:=seqN_kinds h0 _ List.mem_cons_self
        rw [seqF_seqN (fun z hz=>by
          rcases List.mem_cons.1 hz with rfl|hz
          · exact dR_nf b hn
          · rw [List.mem_singleton.1 hz];exact hx) h0] at h
        rw [h,e]
        refine List.mem_cons_of_mem _ (covS_mem.2 ⟨[b],sufp_one b v,_,cv_one hn hc hk0,?_⟩)
        show seqF _++(seqF _++[])=_
        rw [List.append_nil,seqF_x (x:=.mk 5 [] [y]) (by show ¬ (5:Int)=3;decide) (by show ¬ (5:Int)=1;decide)]
    refine Cov.mk' hx (fun a ha=>?_) (fun v z hz h4 a ha=>?_) fun v b L L' hL hL'=>?_
    · rw [(als_x (by show ¬ (5:Int)=4;decide) ha).1,e,seqF_x (by show ¬ (5:Int)=3;decide) (by show ¬ (5:Int)=1;decide)];exact List.mem_cons_self
    · rw [e] at hz
      have hz5:z.kind=5:=by
        rcases List.mem_cons.1 hz with q|q
        · rw [(List.cons.inj q).1];rfl
        · obtain ⟨u, hu, M, hM, eM⟩ := covS_mem.1 q
          rcases one_app eM with ⟨_,q⟩|⟨_,q⟩
          · rw [← (List.cons.inj q).1];rfl
          · cases q
      omega
    · rw [e] at hL
      rcases List.mem_cons.1 hL with rfl|hL
      · exact hself v b L' hL'
      · obtain ⟨u, hu, M, hM, rfl⟩ := covS_mem.1 hL
        rcases stp_app hL' with ⟨M',hM',rfl⟩|hR
        · rw [e]
          exact List.mem_cons_of_mem _ (covS_mem.2 ⟨u++[b],sufp_snoc b hu,M',cv_step hn hc hM hM',rfl⟩)
        · exact hself v b L' hR
end Go.Wb

namespace Go.Wb
open Go.Am Go.Wc
mutual
def wtR:Rx→Nat
  | .mk k _ l=>if k=3∨k=4 then wtS l else if k=5 then 1+wtS l else if k=2 then 2 else 1
def wtS:List Rx→Nat
  | []=>0
  | x :: l=>wtR x+wtS l
end
theorem wtR_eq (r:Rx):wtR r=if r.kind=3∨r.kind=4 then wtS r.kids else if r.kind=5 then 1+wtS r.kids else if r.kind=2 then 2 else 1:=by
  cases r with|mk k s l=>rw [wtR];rfl
theorem wtR_34 {r:Rx} (h:r.kind=3∨r.kind=4):wtR r=wtS r.kids:=by rw [wtR_eq,if_pos h]
theorem wtR_5 {r:Rx} (h:r.kind=5):wtR r=1+wtS r.kids:=by rw [wtR_eq,if_neg (by omega),if_pos h]
theorem wtR_2 {r:Rx} (h:r.kind=2):wtR r=2:=by rw [wtR_eq,if_neg (by omega),if_neg (by omega),if_pos h]
theorem wtR_x {r:Rx} (h:r.kind=0∨r.kind=1):wtR r=1:=by rw [wtR_eq,if_neg (by omega),if_neg (by omega),if_neg (by omega)]
theorem wtS_nil:wtS []=0:=by rw [wtS]
theorem wtS_cons (x:Rx) (l:List Rx):wtS (x :: l)=wtR x+wtS l:=by rw [wtS]
theorem wtS_one (x:Rx):wtS [x]=wtR x:=by rw [wtS,wtS];rfl
theorem wtS_app:∀ l m:List Rx,wtS (l++m)=wtS l+wtS m
  | [],m=>by rw [List.nil_append,wtS_nil,Nat.zero_add]
  | x :: l,m=>by rw [List.cons_append,wtS_cons,wtS_cons,wtS_app l m];omega
theorem wtS_mem {l:List Rx} {x:Rx} (h:x∈l):wtR x≤wtS l:=by
  induction l with
  | nil=>cases h
  | cons y l ih =>
    rw [wtS_cons]
    rcases List.mem_cons.1 h with rfl|h
    · omega
    · have:=ih h;omega
theorem wtS_ge {n:Nat}:∀ {l:List Rx},(∀ x∈l,n≤wtR x)→n*l.length≤wtS l
  | [],_=>by rw [wtS_nil];exact Nat.le_refl _
  | x :: l, h => by
    have h1:=wtS_ge (l:=l) fun y hy=>h y (List.mem_cons_of_mem _ hy)
    have h2:=h x List.mem_cons_self
    rw [wtS_cons,List.length_cons,Nat.mul_add];omega
theorem wt_nf {x:Rx} (h:Nf x):1≤wtR x∧(2≤x.kind→2≤wtR x):=by
  induction h with
  | none=>rw [wtR_x (.inl rfl)];exact ⟨Nat.le_refl _,fun h=>absurd h (by decide)⟩
  | empty=>rw [wtR_x (.inr rfl)];exact ⟨Nat.le_refl _,fun h=>absurd h (by decide)⟩
  | set h=>rw [wtR_2 rfl];exact ⟨by decide,fun _=>Nat.le_refl _⟩
  | @seq l h2 hn hk ih =>
    rw [wtR_34 (.inl rfl)]
    show 1≤wtS l∧(_→2≤wtS l)
    have:=wtS_ge (n:=1) fun x hx=>(ih x hx).1
    exact ⟨by omega,fun _=>by omega⟩
  | @alt l h2 hn hk h4 h5 h6 ih =>
    rw [wtR_34 (.inr rfl)]
    show 1≤wtS l∧(_→2≤wtS l)
    have:=wtS_ge (n:=1) fun x hx=>(ih x hx).1
    exact ⟨by omega,fun _=>by omega⟩
  | @star y hn hk h4 ih =>
    rw [wtR_5 rfl]
    show 1≤1+wtS [y]∧(_→2≤1+wtS [y])
    rw [wtS_one]
    have:=ih.1
    exact ⟨by omega,fun _=>by omega⟩
inductive Shp:Rx→Prop
  | leaf {k:Int} {s:List Int}:k=0∨k=1∨k=2→Shp (.mk k s [])
  | star {x:Rx}:Shp x→Shp (.mk 5 [] [x])
  | pair {k:Int} {x y:Rx}:k=3∨k=4→Shp x→Shp y→Shp (.mk k [] [x,y])
def Top (n:Nat) (t:Rx):Prop:=t.kind≠0→wtS (seqF t)≤(seqF t).length+n
theorem puts_size:∀ (l:List Rx) (s:List Int),(l.foldl putS s).length+Rx.sizes (l.filter fun x=>!decide (x.kind=0∨x.kind=2))+(l.filter fun x=>decide (x.kind=2)).length≤s.length+Rx.sizes l
  | [],s=>by simp [Rx.sizes]
  | x :: l, s => by
    have h:=puts_size l (putS s x)
    have h1:=syms_len x
    rw [List.foldl_cons,Rx.sizes]
    by_cases h2:x.kind=2
    · rw [putS_2 h2, List.length_append] at h
      rw [List.filter_cons_of_neg (by simp [h2]),List.filter_cons_of_pos (by simp [h2]),List.length_cons,putS_2 h2];omega
    · rw [putS_x h2] at h
      rw [List.filter_cons_of_neg (p:=fun x:Rx=>decide (x.kind=2)) (by simp [h2]),putS_x h2]
      by_cases h0:x.kind=0
      · rw [List.filter_cons_of_neg (by simp [h0])];omega
      · rw [List.filter_cons_of_pos (by simp [h0,h2]),Rx.sizes];omega
theorem size_altM (l:List Rx):Rx.sizes (altM (altS l) (altK l))≤Rx.sizes (altL l):=by
  have h1:=puts_size (altL l) []
  rw [show (altL l).filter (fun x=>!decide (x.kind=0∨x.kind=2))=altK l from (putKs_eq _).symm,show (altL l).foldl putS []=altS l from rfl,List.length_nil] at h1
  by_cases h:0<(altS l).length
  · obtain ⟨z, hz⟩ := List.length_pos_iff_exists_mem.1 h
    obtain ⟨x,hx,hk,_⟩:=altS_mem.1 hz
    have h2:0<((altL l).filter fun x=>decide (x.kind=2)).length:=List.length_pos_iff_exists_mem.2 ⟨x,List.mem_filter.2 ⟨hx,by simp [hk]⟩⟩
    have h3:=cpt_len (eq:=eqI) (l:=sortI (altS l))
    rw [sortI_len] at h3
    rw [altM_t h,sizes_append,Rx.sizes,Rx.sizes,Rx.size,Rx.sizes];omega
  · rw [altM_f h];omega
theorem size_altN' (l:List Rx):(altN l).size≤1+Rx.sizes l:=by
  have h1:=sizes_sublist (cptN_sub (eq:=eqR) (l:=sortR (altM (altS l) (altK l))) _ (Nat.le_refl _))
  rw [List.take_length] at h1
  have h2:Rx.sizes (sortR (altM (altS l) (altK l)))=Rx.sizes (altM (altS l) (altK l)):=sizes_perm (isort_perm _)
  have h3:=size_altM l
  have h4:=sizes_altL l
  have h5:=sizes_altC (altD l)
  have h6:Rx.sizes (altD l)=Rx.sizes (cptN eqR (sortR (altM (altS l) (altK l))) (sortR (altM (altS l) (altK l))).length):=rfl
  unfold altN altE
  split
  · rw [size_mk];simp only [List.length_nil,Rx.sizes];omega
  · split
    · have:=size_mem (kid_mem (l:=altC (altD l)) (i:=0) (by omega));omega
    · rw [size_mk];simp only [List.length_nil];omega
theorem sizes_map_le1 {f:Rx→Rx}:∀ {l:List Rx},(∀ x∈l,(f x).size≤x.size)→Rx.sizes (l.map f)≤Rx.sizes l
  | [],_=>Nat.le_refl _
  | x :: l, h => by
    have h1:=sizes_map_le1 (l:=l) fun y hy=>h y (List.mem_cons_of_mem _ hy)
    have h2:=h x List.mem_cons_self
    rw [List.map_cons,Rx.sizes,Rx.sizes];omega
theorem size_build' (t : Bool) (r : Rx) (hv : validR r = true) : (buildR t r).size ≤ r.size := by
  revert hv
  refine rx_ind (P:=fun r=>validR r=true→(buildR t r).size≤r.size) (fun r ih hv=>?_) r
  have hm:=sizes_map_le1 (l:=r.kids) fun x hx=>ih x hx (valid_kids hv x hx)
  have e:=size_eq r
  by_cases h3:r.kind=3
  · cases t with
    | false=>rw [buildR_3f h3];have:=size_seqN (r.kids.map (buildR false));omega
    | true=>rw [buildR_3t h3];have:=size_seqN (r.kids.map (buildR true)).reverse;rw [sizes_rev] at this;omega
  · by_cases h4 : r.kind = 4
    · rw [buildR_4 h4];have:=size_altN' (r.kids.map (buildR t));omega
    · by_cases h5 : r.kind = 5
      · rw [buildR_5 h5]
        have h6:=(valid_5 hv h5).2
        have:=size_starN ((r.kids.map (buildR t)).getD 0 default)
        have:=size_mem (kid_mem (l:=r.kids.map (buildR t)) (i:=0) (by rw [List.length_map];omega))
        omega
      · rw [buildR_x h3 h4 h5,size_mk];simp only [Rx.sizes];omega
end Go.Wb

