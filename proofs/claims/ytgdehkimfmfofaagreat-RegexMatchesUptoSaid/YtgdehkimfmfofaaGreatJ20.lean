/-
  Plain functions: lists on the way to normal forms are no longer than the last ones.
-/
import Derived.Test.YtgdehkimfmfofaaGreatJ19
import Derived.Test.YtgdehkimfmfofaaGreatJ18
set_option linter.unusedVariables false
set_option linter.unusedSectionVars false
set_option linter.unusedSimpArgs false
namespace Go.Wb
open Go.Am
mutual
def dZ:Rx→Nat
  | .mk k s l=>if k=4 then 2+dZs l else if k=3 then 2+Zq l else if k=5 then 2+dZs l+(Rx.mk k s l).size else 2
def dZs:List Rx→Nat
  | []=>0
  | x :: l=>dZ x+dZs l
def Zq:List Rx→Nat
  | []=>0
  | x :: l=>2+dZ x+Rx.sizes l+Zq l
end
theorem Nf.kid {x y:Rx} (h:Nf x) (hy:y∈x.kids):Nf y:=by
  cases h with
  | none=>cases hy
  | empty=>cases hy
  | set h=>cases hy
  | seq h1 h2 h3=>exact h2 y hy
  | alt h1 h2 h3 h4 h5 h6=>exact h2 y hy
  | star h1 h2 h3=>rw [List.mem_singleton.1 hy];exact h1
def WW:List (List Rx)→Nat
  | []=>0
  | L :: l=>2+Zq L+WW l
theorem two_kinds {p q:Rx→Prop} {l:List Rx} (hd:l.Pairwise (·≠·)) (h:∀ x∈l,p x∨q x) (hp:∀ x∈l,∀ y∈l,p x→p y→x=y) (hq:∀ x∈l,∀ y∈l,q x→q y→x=y):l.length≤2:=by
  match l,hd,h,hp,hq with
  | [],_,_,_,_=>exact Nat.zero_le _
  | [a],_,_,_,_=>exact Nat.le_succ _
  | [a,b],_,_,_,_=>exact Nat.le_refl _
  | a :: b :: c :: l, hd, h, hp, hq =>
    exfalso
    have d1:=List.pairwise_cons.1 hd
    have d2:=List.pairwise_cons.1 d1.2
    have ab:=d1.1 b (by simp)
    have ac:=d1.1 c (by simp)
    have bc:=d2.1 c (by simp)
    have ma:a∈a :: b :: c :: l:=by simp
    have mb:b∈a :: b :: c :: l:=by simp
    have mc:c∈a :: b :: c :: l:=by simp
    rcases h a ma with ha|ha<;>rcases h b mb with hb|hb<;>rcases h c mc with hc|hc <;>
      first|exact ab (hp _ ma _ mb ha hb)|exact ac (hp _ ma _ mc ha hc)|exact bc (hp _ mb _ mc hb hc)|exact ab (hq _ ma _ mb ha hb)|exact ac (hq _ ma _ mc ha hc)|exact bc (hq _ mb _ mc hb hc)
theorem seqF_inj {a b:Rx} (ha:Nf a) (hb:Nf b) (ka:a.kind=3∨a.kind=5) (kb:b.kind=3∨b.kind=5) (h:seqF a=seqF b):a=b:=by
  rcases ka with ka|ka
  · rcases kb with kb | kb
    · rw [seqF_3 ka, seqF_3 kb] at h
      rw [(ha.k3 ka).1,(hb.k3 kb).1,h]
    · rw [seqF_x (x := b) (by omega) (by omega)] at h
      exact seqF_one ha h
  · rw [seqF_x (x := a) (by omega) (by omega)] at h
    exact (seqF_one hb h.symm).symm
theorem als_pw {t:Rx} (ht:Nf t):((als t).map seqF).Pairwise (·≠·):=by
  have h1:(als t).Pairwise (·≠·):=by
    unfold als
    refine List.Pairwise.filter _ ?_
    by_cases h4:t.kind=4
    · rw [altF_4 h4];exact List.Pairwise.imp (fun h=>h.2) (ht.k4 h4).2.2.2.2.1
    · rw [altF_x h4];exact List.pairwise_singleton _ _
  rw [List.pairwise_map]
  refine List.Pairwise.imp_of_mem (fun {a b} ha hb hab e=>?_) h1
  have h2:=als_nf ht ha
  have h3:=als_nf ht hb
  exact hab (seqF_inj h2.1 h3.1 h2.2 h3.2 e)
theorem cv_mlen {x : Rx} (hx : Nf x) (ih : ∀ v M, M ∈ covT x v → M.length ≤ wtR x) {u : List Int} {M : List Rx} (h : M ∈ cv x u (covT x u)) : M.length ≤ wtR x := by
  unfold cv at h
  split at h
  · exact ih _ _ h
  · rcases List.mem_cons.1 h with rfl | h
    · by_cases k3 : (Dv x u).kind = 3
      · exact ih u _ ((cov_nf hx).all u _ (als_self (.inl k3)))
      · have h1 := (wt_nf hx).1
        by_cases k1:(Dv x u).kind=1
        · rw [seqF_1 k1];exact Nat.zero_le _
        · rw [seqF_x k3 k1];exact h1
    · exact ih _ _ h
theorem cov_mlen {x:Rx} (h:Nf x):∀ v M,M∈covT x v→M.length≤wtR x:=by
  induction h with
  | none=>intro v M h;rw [covT_x (by decide) (by decide) (by decide)] at h;cases h
  | empty=>intro v M h;rw [covT_x (by decide) (by decide) (by decide)] at h;cases h
  | set h=>intro v M h;rw [covT_x (by simp [Rx.kind]) (by simp [Rx.kind]) (by simp [Rx.kind])] at h;cases h
  | @seq l h2 hn hk ih =>
    intro v M h
    rw [covT_3 rfl] at h
    obtain ⟨pre,y,R,e,u,hu,M',hM,rfl⟩:=covQ_mem.1 h
    have e':l=pre++y :: R:=e
    have hy:y∈l:=by rw [e'];simp
    have h3:=cv_mlen (hn y hy) (ih y hy) hM
    have h4:=wtS_ge (n:=1) (l:=R) fun z hz=>(wt_nf (hn z (by rw [e'];simp [hz]))).1
    rw [wtR_34 (.inl rfl)]
    show _≤wtS l
    rw [e',wtS_app,wtS_cons,List.length_append];omega
  | @alt l h2 hn hk h4 h5 h6 ih =>
    intro v M h
    rw [covT_4 rfl] at h
    obtain ⟨y,hy,h⟩:=covA_mem.1 h
    have h1:=ih y hy v M h
    have h2:=wtS_mem (l:=l) hy
    rw [wtR_34 (.inr rfl)]
    show _≤wtS l
    omega
  | @star y hn hk h4 ih =>
    intro v M h
    have e:covT (.mk 5 [] [y]) v=[.mk 5 [] [y]] :: covS [y] v (.mk 5 [] [y]):=covT_5 rfl v
    rw [e] at h
    rw [wtR_5 rfl]
    show _≤1+wtS [y]
    rw [wtS_one]
    rcases List.mem_cons.1 h with rfl|h
    · exact Nat.le_add_right 1 _
    · obtain ⟨u, hu, M', hM, rfl⟩ := covS_mem.1 h
      have:=cv_mlen hn ih hM
      rw [List.length_append,List.length_singleton];omega
def sumTo (g:Nat→Nat):Nat→Nat
  | 0=>g 0
  | n+1=>sumTo g n+g (n+1)
def sumP (g:Nat→Nat):Nat→Nat
  | 0=>0
  | n+1=>sumP g n+g (n+1)
structure Tab (C N R:Nat) (f F s S a A g G:Nat→Nat→Nat):Prop where
  fa:∀ c,c≤C→∀ n,n≤N→f c n≤a c n∧F c n≤A c n
  sa:∀ c,c≤C→∀ n,n≤N→s c n≤a c n∧S c n≤A c n
  ag:∀ c,c≤C→∀ n,n≤N→a c n≤g c n∧A c n≤G c n
  fg:∀ c,c≤C→∀ n,n≤N→sumTo (fun j=>1+f c j) n≤g c n∧sumTo (fun j=>10+2*F c j+(1+f c j)*R) n≤G c n
  sg:∀ c,c≤C→∀ n,n≤N→sumTo (fun j=>s c j) n≤g c n∧sumTo (fun j=>S c j+s c j*R) n≤G c n
  st:∀ c,2≤c→c<C→∀ n,n≤N→1+sumP (fun j=>1+f c j) n≤s (c+1) n∧2+R+sumP (fun j=>10+2*F c j+(1+f c j)*R) n≤S (c+1) n
  alt:∀ c,1≤c→c≤C→∀ d,1≤d→d≤C-c→∀ n,n≤N→a c n+a d n≤f (c+d) n∧A c n+A d n≤F (c+d) n
  seq:∀ c,2≤c→c≤C→∀ d,2≤d→d≤C-c→∀ n,n≤N→g c n+g d n≤f (c+d) n∧G c n+G d n≤F (c+d) n
section
variable {C N R Z:Nat} {f F s S a A g G:Nat→Nat→Nat}
def Bd (N:Nat) (f F s S:Nat→Nat→Nat) (x:Rx):Prop:=∀ v:List Int,v.length≤N →
  (x.kind≠5→(covT x v).length≤f (wtR x) v.length∧WW (covT x v)≤F (wtR x) v.length)∧(x.kind=5→(covT x v).length≤s (wtR x) v.length∧WW (covT x v)≤S (wtR x) v.length)
end
end Go.Wb

namespace Go.Wb
open Go.Am
mutual
def wd:Rx→Nat
  | .mk _ s l=>max (max s.length l.length) (wds l)
def wds:List Rx→Nat
  | []=>0
  | x :: l=>max (wd x) (wds l)
end
theorem wds_le {B:Nat}:∀ {l:List Rx},wds l≤B↔∀ x∈l,wd x≤B
  | []=>by rw [wds];exact ⟨fun _ x hx=>(by cases hx),fun _=>Nat.zero_le _⟩
  | y :: l => by
    rw [wds,Nat.max_le,wds_le (l:=l)]
    exact ⟨fun h x hx=>by
      rcases List.mem_cons.1 hx with rfl|hx
      · exact h.1
      · exact h.2 x hx,fun h=>⟨h y List.mem_cons_self,fun x hx=>h x (List.mem_cons_of_mem _ hx)⟩⟩
theorem wd_le {r:Rx} {B:Nat}:wd r≤B↔(r.syms.length≤B∧r.kids.length≤B)∧∀ x∈r.kids,wd x≤B:=by
  cases r with|mk k s l =>
  rw [wd,Nat.max_le,Nat.max_le,wds_le];rfl
theorem wd_kid {r x:Rx} {B:Nat} (h:wd r≤B) (hx:x∈r.kids):wd x≤B:=(wd_le.1 h).2 x hx
mutual
theorem wd_size:∀ r:Rx,wd r≤r.size
  | .mk k s l => by
    rw [wd,Rx.size]
    have h1:=wds_size l
    have h2:=sizes_len l
    omega
theorem wds_size:∀ l:List Rx,wds l≤Rx.sizes l
  | []=>Nat.le_refl _
  | x :: l => by
    rw [wds,Rx.sizes]
    have h1:=wd_size x
    have h2:=wds_size l
    omega
end
/-! Where the alternatives of derivatives come from. -/
abbrev Pos:=Option Rx×List Rx
def Pos.on (R:List Rx) (e:Pos):Pos:=(e.1,e.2++R)
mutual
def posT:Rx→List Pos
  | .mk k s l=>if k=4 then posA l else if k=3 then posQ l else if k=5 then (none,[.mk k s l]) :: posS l (.mk k s l) else []
def posA:List Rx→List Pos
  | []=>[]
  | x :: l=>posT x++posA l
def posQ:List Rx→List Pos
  | []=>[]
  | x :: l=>(some x,l) :: ((posT x).map (Pos.on l)++posQ l)
def posS:List Rx→Rx→List Pos
  | [],_=>[]
  | x :: _,r=>(some x,[r]) :: (posT x).map (Pos.on [r])
end
def pval (u:List Int) (e:Pos):List Rx:=(match e.1 with|some y=>seqF (Dv y u)|none=>[])++e.2
theorem pval_on (u:List Int) (R:List Rx) (e:Pos):pval u (Pos.on R e)=pval u e++R:=by
  unfold pval Pos.on;rw [List.append_assoc]
theorem posT_eq (x:Rx):posT x=if x.kind=4 then posA x.kids else if x.kind=3 then posQ x.kids else if x.kind=5 then (none,[x]) :: posS x.kids x else []:=by
  cases x with|mk k s l=>rw [posT];rfl
theorem posT_4 {x:Rx} (h:x.kind=4):posT x=posA x.kids:=by rw [posT_eq,if_pos h]
theorem posT_3 {x:Rx} (h:x.kind=3):posT x=posQ x.kids:=by rw [posT_eq,if_neg (by omega),if_pos h]
theorem posT_5 {x:Rx} (h:x.kind=5):posT x=(none,[x]) :: posS x.kids x:=by rw [posT_eq,if_neg (by omega),if_neg (by omega),if_pos h]
mutual
theorem posT_len : ∀ x : Rx, (posT x).length + 1 ≤ 2 * x.size
  | .mk k s l => by
    rw [posT,Rx.size]
    have h1:=posA_len l
    have h2:=posQ_len l
    have h3:=posS_len l (.mk k s l)
    have h4:=sizes_len l
    split
    · omega
    · split
      · omega
      · split
        · rw [List.length_cons];omega
        · rw [List.length_nil];omega
theorem posA_len:∀ l:List Rx,(posA l).length≤2*Rx.sizes l
  | []=>Nat.le_refl _
  | x :: l => by
    rw [posA,Rx.sizes,List.length_append]
    have h1:=posT_len x
    have h2:=posA_len l
    omega
theorem posQ_len:∀ l:List Rx,(posQ l).length≤2*Rx.sizes l
  | []=>Nat.le_refl _
  | x :: l => by
    rw [posQ,Rx.sizes,List.length_cons,List.length_append,List.length_map]
    have h1:=posT_len x
    have h2:=posQ_len l
    omega
theorem posS_len:∀ (l:List Rx) (r:Rx),(posS l r).length≤2*Rx.sizes l
  | [],r=>Nat.le_refl _
  | x :: l, r => by
    rw [posS,Rx.sizes,List.length_cons,List.length_map]
    have h1:=posT_len x
    omega
end
theorem posA_mem {e:Pos}:∀ {l:List Rx} {x:Rx},x∈l→e∈posT x→e∈posA l
  | y :: l, x, hx, he => by
    rw [posA]
    rcases List.mem_cons.1 hx with rfl|hx
    · exact List.mem_append_left _ he
    · exact List.mem_append_right _ (posA_mem hx he)
theorem posQ_mem {x:Rx} {R:List Rx}:∀ pre:List Rx,(some x,R)∈posQ (pre++x :: R)∧∀ e∈posT x,Pos.on R e∈posQ (pre++x :: R)
  | [] => by
    rw [List.nil_append,posQ]
    exact ⟨List.mem_cons_self,fun e he=>List.mem_cons_of_mem _ (List.mem_append_left _ (List.mem_map.2 ⟨e,he,rfl⟩))⟩
  | y :: pre => by
    rw [List.cons_append,posQ]
    have h:=posQ_mem (x:=x) (R:=R) pre
    exact ⟨List.mem_cons_of_mem _ (List.mem_append_right _ h.1),fun e he=>List.mem_cons_of_mem _ (List.mem_append_right _ (h.2 e he))⟩
theorem sufs_len:∀ v:List Int,(sufs v).length=v.length+1
  | []=>rfl
  | a :: v=>by rw [sufs,List.length_cons,sufs_len v];rfl
theorem sufs_le:∀ {u v:List Int},u∈sufs v→u.length≤v.length
  | u,[],h=>by rw [sufs,List.mem_singleton] at h;rw [h];exact Nat.le_refl _
  | u, a :: v, h => by
    rw [sufs] at h
    rcases List.mem_cons.1 h with rfl|h
    · exact Nat.le_refl _
    · have:=sufs_le h;rw [List.length_cons];omega
theorem sufs_trans {t u:List Int}:∀ {v:List Int},t∈sufs u→u∈sufs v→t∈sufs v
  | [],h,h'=>by rw [sufs,List.mem_singleton] at h';rw [h'] at h;exact h
  | a :: v, h, h' => by
    rw [sufs] at h' ⊢
    rcases List.mem_cons.1 h' with rfl|h'
    · rw [sufs] at h;exact h
    · exact List.mem_cons_of_mem _ (sufs_trans h h')
theorem sufp_sufs:∀ {u v:List Int},u∈sufp v→u∈sufs v
  | u,[],h=>by rw [sufp] at h;cases h
  | u, a :: v, h => by
    rw [sufp] at h;rw [sufs]
    rcases List.mem_cons.1 h with rfl|h
    · exact List.mem_cons_self
    · exact List.mem_cons_of_mem _ (sufp_sufs h)
theorem cv_cases {x:Rx} {u:List Int} {T:List (List Rx)} {M:List Rx} (h:M∈cv x u T):M∈T∨M=seqF (Dv x u):=by
  unfold cv at h
  split at h
  · exact .inl h
  · exact (List.mem_cons.1 h).symm
theorem pos_cov {x : Rx} (h : Nf x) : ∀ v L, L ∈ covT x v → ∃ e ∈ posT x, ∃ u ∈ sufs v, L = pval u e := by
  induction h with
  | none=>intro v M h;rw [covT_x (by decide) (by decide) (by decide)] at h;cases h
  | empty=>intro v M h;rw [covT_x (by decide) (by decide) (by decide)] at h;cases h
  | set h=>intro v M h;rw [covT_x (by simp [Rx.kind]) (by simp [Rx.kind]) (by simp [Rx.kind])] at h;cases h
  | @seq l h2 hn hk ih =>
    intro v L h
    rw [covT_3 rfl] at h
    obtain ⟨pre,y,R,e,u,hu,M,hM,rfl⟩:=covQ_mem.1 h
    have e':l=pre++y :: R:=e
    subst e'
    have hp:=posQ_mem (x:=y) (R:=R) pre
    rw [posT_3 rfl]
    rcases cv_cases hM with hM|hM
    · obtain ⟨p, hp', t, ht, rfl⟩ := ih y (by simp) u M hM
      exact ⟨_,hp.2 p hp',t,sufs_trans ht hu,(pval_on t R p).symm⟩
    · exact ⟨_,hp.1,u,hu,by rw [hM];rfl⟩
  | @alt l h2 hn hk h4 h5 h6 ih =>
    intro v L h
    rw [covT_4 rfl] at h
    obtain ⟨y,hy,h⟩:=covA_mem.1 h
    obtain ⟨p,hp,t,ht,e⟩:=ih y hy v L h
    rw [posT_4 rfl]
    exact ⟨p,posA_mem hy hp,t,ht,e⟩
  | @star y hn hk h4 ih =>
    intro v L h
    rw [covT_5 rfl] at h
    rw [posT_5 rfl]
    rcases List.mem_cons.1 h with rfl|h
    · exact ⟨_,List.mem_cons_self,[],sufs_nil v,rfl⟩
    · obtain ⟨u, hu, M, hM, rfl⟩ := covS_mem.1 h
      have hu:=sufp_sufs hu
      show ∃ e∈_ :: posS [y] _,_
      rw [posS]
      rcases cv_cases hM with hM|hM
      · obtain ⟨p, hp', t, ht, rfl⟩ := ih u M hM
        exact ⟨_,List.mem_cons_of_mem _ (List.mem_cons_of_mem _ (List.mem_map.2 ⟨p,hp',rfl⟩)),t,sufs_trans ht hu,(pval_on t _ p).symm⟩
      · exact ⟨_,List.mem_cons_of_mem _ List.mem_cons_self,u,hu,by rw [hM];rfl⟩
theorem pw_len {α : Type} : ∀ {l m : List α}, l.Pairwise (· ≠ ·) → (∀ x ∈ l, x ∈ m) → l.length ≤ m.length
  | [],m,_,_=>Nat.zero_le _
  | x :: l, m, hp, h => by
    obtain ⟨m1,m2,rfl⟩:=List.append_of_mem (h x List.mem_cons_self)
    have hp':=List.pairwise_cons.1 hp
    have:=pw_len (l:=l) (m:=m1++m2) hp'.2 fun y hy=>by
      have h1:=h y (List.mem_cons_of_mem _ hy)
      rcases List.mem_append.1 h1 with q|q
      · exact List.mem_append_left _ q
      · rcases List.mem_cons.1 q with q | q
        · exact absurd q.symm (hp'.1 y hy)
        · exact List.mem_append_right _ q
    rw [List.length_append] at this ⊢
    rw [List.length_cons,List.length_cons];omega
theorem flatMap_len {α β:Type} {f:α→List β} {n:Nat} (hf:∀ a,(f a).length=n):∀ l:List α,(l.flatMap f).length=l.length*n
  | []=>by simp
  | a :: l=>by rw [List.flatMap_cons,List.length_append,hf,flatMap_len hf l,List.length_cons,Nat.succ_mul];omega
theorem cover_len {x:Rx} (hx:Nf x) {v:List Int} {LL:List (List Rx)} (hp:LL.Pairwise (·≠·)) (h:∀ L∈LL,L∈covT x v):LL.length≤2*x.size*(v.length+1):=by
  have h1:=pw_len hp (m:=(posT x).flatMap fun e=>(sufs v).map fun u=>pval u e) fun L hL=>by
    obtain ⟨e,he,u,hu,e2⟩:=pos_cov hx v L (h L hL)
    exact List.mem_flatMap.2 ⟨e,he,List.mem_map.2 ⟨u,hu,e2.symm⟩⟩
  rw [flatMap_len (n:=v.length+1) fun e=>by rw [List.length_map,sufs_len]] at h1
  have h2:=posT_len x
  exact Nat.le_trans h1 (Nat.mul_le_mul_right _ (by omega))
structure Cvd (x:Rx) (v:List Int) (t:Rx):Prop where
  nf:Nf t
  als:∀ a∈als t,seqF a∈covT x v
theorem cvd_Dv {x:Rx} (hx:Nf x) (v:List Int):Cvd x v (Dv x v):=⟨Dv_nf hx v,(cov_nf hx).all v⟩
theorem cvd_next {x a:Rx} (hx:Nf x) {v:List Int} (ha:Nf a) (hk:a.kind=3∨a.kind=5) (hc:seqF a∈covT x v) (b:Int):Cvd x (v++[b]) (dR b a):=by
  refine ⟨dR_nf b ha,fun c hca=>?_⟩
  rcases stp_als ha hk hca with h3|⟨z,h3,h4,h5⟩
  · exact (cov_nf hx).step v b _ _ hc h3
  · exact (cov_nf hx).exp _ z ((cov_nf hx).step v b _ _ hc h3) h4 c h5
theorem dQ_nf {b:Int} {l:List Rx} (h:∀ x∈l,Nf x) {i:Nat} (hi:i<l.length):Nf (dQ b l i):=by
  refine seqN_nf fun z hz=>?_
  rcases List.mem_cons.1 hz with rfl|hz
  · exact dR_nf b (h _ (kid_mem hi))
  · rw [List.mem_singleton.1 hz];exact seqN_nf fun u hu=>h u (List.mem_of_mem_drop hu)
theorem cvd_dQ {x a:Rx} (hx:Nf x) {v:List Int} (ha:Nf a) (hk:a.kind=3) (hc:seqF a∈covT x v) (b:Int) {i:Nat} (hi:i<a.kids.length):Cvd x (v++[b]) (dQ b a.kids i):=by
  obtain ⟨e,h2,hn,hkk⟩:=ha.k3 hk
  refine ⟨dQ_nf hn hi,fun c hca=>?_⟩
  have h3:=dQ_F hi hn hkk (kind_als hca)
  have h4:seqF (dQ b a.kids i)∈stp b (seqF a):=by rw [seqF_3 hk,h3.1];exact stp_get hi h3.2
  rcases als_G hca with q|⟨q,q4,qc⟩
  · rw [q];exact (cov_nf hx).step v b _ _ hc h4
  · rw [q] at h4
    exact (cov_nf hx).exp _ _ ((cov_nf hx).step v b _ _ hc h4) q4 c qc
theorem altF_als {t : Rx} (ht : Nf t) : (altF t).length ≤ (als t).length + 2 := by
  by_cases h4:t.kind=4
  · obtain ⟨e, h2, hn, hkk, hs, h22, _⟩ := ht.k4 h4
    have h5:∀ l:List Rx,(l.filter fun a=>decide (3≤a.kind)).length+(l.filter fun a=>!decide (3≤a.kind)).length=l.length:=fun l=>by
      induction l with
      | nil=>rfl
      | cons y l ih =>
        by_cases q:3≤y.kind
        · rw [List.filter_cons_of_pos (by simp [q]),List.filter_cons_of_neg (by simp [q]),List.length_cons,List.length_cons];omega
        · rw [List.filter_cons_of_neg (by simp [q]),List.filter_cons_of_pos (by simp [q]),List.length_cons,List.length_cons];omega
    have h8:∀ x∈t.kids.filter (fun x=>!decide (3≤x.kind)),x∈t.kids∧(x.kind=1∨x.kind=2):=fun x hx=>by
      have h9:=List.mem_filter.1 hx
      have h10:=(hn x h9.1).kinds
      have h11:=(hkk x h9.1).1
      have h12:¬ 3≤x.kind:=by simpa using h9.2
      exact ⟨h9.1,by omega⟩
    have h10:=two_kinds (p:=fun x=>x.kind=1) (q:=fun x=>x.kind=2) (l:=t.kids.filter fun x=>!decide (3≤x.kind)) ((List.Pairwise.imp (fun h=>h.2) hs).filter _) (fun x hx=>(h8 x hx).2)
      (fun x hx y hy h h'=>by rw [(hn x (h8 x hx).1).k1 h,(hn y (h8 y hy).1).k1 h']) fun x hx y hy h h'=>h22 x (h8 x hx).1 y (h8 y hy).1 h h'
    have h6:als t=t.kids.filter fun a=>decide (3≤a.kind):=by unfold als;rw [altF_4 h4]
    rw [altF_4 h4,h6,← h5 t.kids];omega
  · rw [altF_x h4];show 1≤_;omega
theorem cvd_len {x t:Rx} (hx:Nf x) {v:List Int} (h:Cvd x v t):(altF t).length≤2*x.size*(v.length+1)+2:=by
  have h1:=altF_als h.nf
  have h2:=cover_len hx (als_pw h.nf) (v:=v) fun L hL=>by
    obtain ⟨a,ha,rfl⟩:=List.mem_map.1 hL
    exact h.als a ha
  rw [List.length_map] at h2
  omega
theorem nf_setlen {x:Rx} (h:Nf x):x.syms.length≤64:=by
  cases h with
  | set h=>exact setOk_len h
  | _=>exact Nat.zero_le _
theorem wt_size {x:Rx} (h:Nf x):wtR x≤x.size:=by
  have hs:∀ l:List Rx,(∀ x∈l,wtR x≤x.size)→wtS l≤Rx.sizes l:=fun l hl=>by
    induction l with
    | nil=>exact Nat.le_refl _
    | cons y l ih =>
      rw [wtS_cons,Rx.sizes]
      have h1:=ih fun z hz=>hl z (List.mem_cons_of_mem _ hz)
      have h2:=hl y List.mem_cons_self
      omega
  induction h with
  | none=>decide
  | empty=>decide
  | @set s h =>
    rw [wtR_2 rfl,size_mk]
    have:=(setOk_iff.1 h).1
    omega
  | @seq l h2 hn hk ih=>rw [wtR_34 (.inl rfl),size_mk];have:=hs l ih;show wtS l≤_;omega
  | @alt l h2 hn hk h4 h5 h6 ih=>rw [wtR_34 (.inr rfl),size_mk];have:=hs l ih;show wtS l≤_;omega
  | @star y hn hk h4 ih=>rw [wtR_5 rfl,size_mk];have:=hs [y] (fun z hz=>by rw [List.mem_singleton.1 hz];exact ih);show 1+wtS [y]≤_;omega
theorem cvd_fac {x t:Rx} (hx:Nf x) {v:List Int} (h:Cvd x v t):(seqF t).length≤x.size:=by
  by_cases k3:t.kind=3
  · have h1 := cov_mlen hx v _ (h.als t (als_self (.inl k3)))
    have:=wt_size hx
    omega
  · by_cases k1 : t.kind = 1
    · rw [seqF_1 k1];exact Nat.zero_le _
    · rw [seqF_x k3 k1];exact size_pos x
theorem fac_of {x : Rx} (h : Nf x) : ∀ v L f, L ∈ covT x v → f ∈ L → (∃ y u, y.size < x.size ∧ Nf y ∧ u ∈ sufs v ∧ f = Dv y u) ∨ (x.kind = 5 ∧ f = x) := by
  have inner:∀ {x y:Rx} {u v:List Int} {M:List Rx} {f:Rx},Nf y→y.size<x.size→u∈sufs v→(∀ v L f,L∈covT y v→f∈L→(∃ z u,z.size<y.size∧Nf z∧u∈sufs v∧f=Dv z u)∨(y.kind=5∧f=y))→M∈cv y u (covT y u)→f∈M →
      ∃ z u,z.size<x.size∧Nf z∧u∈sufs v∧f=Dv z u:=fun {x y u v M f} hy hlt hu ih hM hf=>by
    have go:∀ L,L∈covT y u→f∈L→∃ z u,z.size<x.size∧Nf z∧u∈sufs v∧f=Dv z u:=fun L hL hf=>by
      rcases ih u L f hL hf with ⟨z,t,h1,h2,h3,h4⟩|⟨_,h4⟩
      · exact ⟨z,t,by omega,h2,sufs_trans h3 hu,h4⟩
      · exact ⟨y,[],hlt,hy,sufs_nil v,by rw [Dv_nil];exact h4⟩
    rcases cv_cases hM with hM|hM
    · exact go M hM hf
    · subst hM
      by_cases k3:(Dv y u).kind=3
      · exact go _ ((cov_nf hy).all u _ (als_self (.inl k3))) hf
      · by_cases k1 : (Dv y u).kind = 1
        · rw [seqF_1 k1] at hf;cases hf
        · rw [seqF_x k3 k1, List.mem_singleton] at hf
          exact ⟨y,u,hlt,hy,hu,hf⟩
  induction h with
  | none=>intro v M f h;rw [covT_x (by decide) (by decide) (by decide)] at h;cases h
  | empty=>intro v M f h;rw [covT_x (by decide) (by decide) (by decide)] at h;cases h
  | set h=>intro v M f h;rw [covT_x (by simp [Rx.kind]) (by simp [Rx.kind]) (by simp [Rx.kind])] at h;cases h
  | @seq l h2 hn hk ih =>
    intro v L f h hf
    rw [covT_3 rfl] at h
    obtain ⟨pre,y,R,e,u,hu,M,hM,rfl⟩:=covQ_mem.1 h
    have e':l=pre++y :: R:=e
    have hy:y∈l:=by rw [e'];simp
    rcases List.mem_append.1 hf with hf|hf
    · exact .inl (inner (hn y hy) (size_kid (r:=.mk 3 [] l) hy) hu (ih y hy) hM hf)
    · have hf' : f ∈ l := by rw [e']; simp [hf]
      exact .inl ⟨f,[],size_kid (r:=.mk 3 [] l) hf',hn f hf',sufs_nil v,rfl⟩
  | @alt l h2 hn hk h4 h5 h6 ih =>
    intro v L f h hf
    rw [covT_4 rfl] at h
    obtain ⟨y,hy,h⟩:=covA_mem.1 h
    have hlt:=size_kid (r:=.mk 4 [] l) hy
    rcases ih y hy v L f h hf with ⟨z,t,h1,h2,h3,h4⟩|⟨_,h4⟩
    · exact .inl ⟨z,t,by omega,h2,h3,h4⟩
    · exact .inl ⟨y,[],hlt,hn y hy,sufs_nil v,by rw [Dv_nil];exact h4⟩
  | @star y hn hk h4 ih =>
    intro v L f h hf
    rw [covT_5 rfl] at h
    have hlt:y.size<(Rx.mk 5 [] [y]).size:=size_kid (r:=.mk 5 [] [y]) List.mem_cons_self
    rcases List.mem_cons.1 h with rfl|h
    · exact .inr ⟨rfl,List.mem_singleton.1 hf⟩
    · obtain ⟨u, hu, M, hM, rfl⟩ := covS_mem.1 h
      rcases List.mem_append.1 hf with hf|hf
      · exact .inl (inner hn hlt (sufp_sufs hu) ih hM hf)
      · exact .inr ⟨rfl,List.mem_singleton.1 hf⟩
end Go.Wb

namespace Go.Wb
open Go.Am
structure LsOk (B:Nat) (m:List Rx):Prop where
  syms:(altS m).length≤B
  kids:(altK m).length≤B
  wide:∀ x∈m,wd x≤B
inductive DOk (B:Nat) (b:Int):Rx→Prop
  | mk {r:Rx} (h4:r.kind=4→LsOk B (r.kids.map (dR b))) (h3:r.kind=3→LsOk B (dRq b r.kids)) (hs:r.kind=3∨r.kind=5→∀ x∈r.kids,(seqF (dR b x)).length≤B∧wd (dR b x)≤B) (hk:∀ x,x∈r.kids→DOk B b x):DOk B b r
theorem DOk.h4 {B:Nat} {b:Int} {r:Rx} (h:DOk B b r):r.kind=4→LsOk B (r.kids.map (dR b)):=by cases h;assumption
theorem DOk.h3 {B:Nat} {b:Int} {r:Rx} (h:DOk B b r):r.kind=3→LsOk B (dRq b r.kids):=by cases h;assumption
theorem DOk.hs {B:Nat} {b:Int} {r:Rx} (h:DOk B b r):r.kind=3∨r.kind=5→∀ x∈r.kids,(seqF (dR b x)).length≤B∧wd (dR b x)≤B:=by cases h;assumption
theorem DOk.hk {B:Nat} {b:Int} {r:Rx} (h:DOk B b r):∀ x,x∈r.kids→DOk B b x:=by cases h;assumption
theorem wd_low {x:Rx} (h:Nf x) (hk:x.kind≤2):wd x≤64:=by
  have hl:=nf_setlen h
  have e:x.kids=[]:=by
    cases h with
    | none=>rfl
    | empty=>rfl
    | set h=>rfl
    | seq h1 h2 h3=>exact absurd hk (by show ¬ (3:Int)≤2;decide)
    | alt h1 h2 h3 h4 h5 h6=>exact absurd hk (by show ¬ (4:Int)≤2;decide)
    | star h1 h2 h3=>exact absurd hk (by show ¬ (5:Int)≤2;decide)
  refine wd_le.2 ⟨⟨hl,by rw [e];exact Nat.zero_le _⟩,fun y hy=>?_⟩
  rw [e] at hy;cases hy
section
variable {S N K:Nat} (hK:2*S*(N+2)+66≤K)
include hK
theorem room_le {s n:Nat} (hs:s≤S) (hn:n≤N+1):2*s*(n+1)+2≤K:=by
  have h1:2*s*(n+1)≤2*S*(N+2):=Nat.mul_le_mul (by omega) (by omega)
  omega
theorem S_le:S+64≤K:=by
  have h1:2*S*2≤2*S*(N+2):=Nat.mul_le_mul_left _ (by omega)
  omega
theorem wd_cvd:∀ (n:Nat) (x:Rx),x.size≤n→Nf x→x.size≤S→∀ v:List Int,v.length≤N+1→∀ t,Cvd x v t→wd t≤K:=by
  intro n
  induction n with
  | zero=>intro x h;have:=size_pos x;omega
  | succ n ih =>
  intro x hn hx hS v hv t ht
  have hSK:=S_le hK
  have fac:∀ L f,L∈covT x v→f∈L→wd f≤K:=fun L f hL hf=>by
    rcases fac_of hx v L f hL hf with ⟨y,u,h1,h2,h3,h4⟩|⟨_,h4⟩
    · rw [h4]
      have:=sufs_le h3
      exact ih y (by omega) h2 (by omega) u (by omega) _ (cvd_Dv h2 u)
    · rw [h4];have:=wd_size x;omega
  have node:∀ a,Nf a→(a.kind=3∨a.kind=5)→seqF a∈covT x v→wd a≤K:=fun a ha hk hc=>by
    rcases hk with hk|hk
    · obtain ⟨e, h2, _⟩ := ha.k3 hk
      have h3:=cov_mlen hx v _ hc
      have h4:=wt_size hx
      rw [seqF_3 hk] at h3
      refine wd_le.2 ⟨⟨by rw [e];exact Nat.zero_le _,by omega⟩,fun y hy=>fac _ y hc (by rw [seqF_3 hk];exact hy)⟩
    · exact fac _ a hc (by rw [seqF_x (by omega) (by omega)];exact List.mem_cons_self)
  have hkk:=ht.nf.kinds
  by_cases h4:t.kind=4
  · obtain ⟨e, h2, hnk, hk4, _⟩ := ht.nf.k4 h4
    have h3:=cvd_len hx ht
    have h5:=room_le hK hS hv
    rw [altF_4 h4] at h3
    refine wd_le.2 ⟨⟨by rw [e];exact Nat.zero_le _,by omega⟩,fun y hy=>?_⟩
    have hyk:=(hnk y hy).kinds
    by_cases q:3≤y.kind
    · have := hk4 y hy
      have hya:y∈als t:=als_mem.2 ⟨by rw [altF_4 h4];exact hy,q⟩
      exact node y (hnk y hy) (by omega) (ht.als y hya)
    · have:=wd_low (hnk y hy) (by omega);omega
  · by_cases q : 3 ≤ t.kind
    · exact node t ht.nf (by omega) (ht.als t (als_self (by omega)))
    · have:=wd_low ht.nf (by omega);omega
end
/-! Lists of alternatives together. -/
theorem altL_cons (x:Rx) (l:List Rx):altL (x :: l)=altF x++altL l:=rfl
theorem altL_len {n:Nat}:∀ {m:List Rx},(∀ x∈m,(altF x).length≤n)→(altL m).length≤m.length*n
  | [],_=>Nat.zero_le _
  | x :: m, h => by
    rw [altL_cons,List.length_append,List.length_cons,Nat.succ_mul]
    have h1:=altL_len (m:=m) fun y hy=>h y (List.mem_cons_of_mem _ hy)
    have h2:=h x List.mem_cons_self
    omega
theorem altK_len (m:List Rx):(altK m).length≤(altL m).length:=by unfold altK;rw [putKs_eq];exact List.length_filter_le _ _
theorem putS_foldl:∀ (l:List Rx) (s:List Int),(l.foldl putS s).length=s.length+(putSs l).length:=by
  have key:∀ (l:List Rx) (s:List Int),l.foldl putS s=s++l.foldl putS []:=fun l=>by
    induction l with
    | nil=>intro s;simp
    | cons x l ih =>
      intro s
      rw [List.foldl_cons,List.foldl_cons,ih,ih (putS [] x)]
      by_cases h:x.kind=2
      · rw [putS_2 h,putS_2 h,List.append_assoc];rfl
      · rw [putS_x h,putS_x h];rfl
  intro l s
  rw [key];exact List.length_append
theorem putSs_append (l m:List Rx):(putSs (l++m)).length=(putSs l).length+(putSs m).length:=by
  show ((l++m).foldl putS []).length=_
  rw [List.foldl_append,putS_foldl];rfl
theorem putSs_none:∀ {l:List Rx},(∀ x∈l,x.kind≠2)→(putSs l).length=0
  | [],_=>rfl
  | x :: l, h => by
    rw [show x :: l=[x]++l from rfl,putSs_append,putSs_none fun y hy=>h y (List.mem_cons_of_mem _ hy)]
    show (putS [] x).length+0=0
    rw [putS_x (h x List.mem_cons_self)];rfl
theorem putSs_one:∀ {l:List Rx},l.Pairwise (·≠·)→(∀ x∈l,Nf x)→(∀ x∈l,∀ y∈l,x.kind=2→y.kind=2→x=y)→(putSs l).length≤64
  | [],_,_,_=>Nat.zero_le _
  | x :: l, hp, hn, h2 => by
    have hp':=List.pairwise_cons.1 hp
    rw [show x :: l=[x]++l from rfl,putSs_append]
    by_cases q:x.kind=2
    · rw [putSs_none (l := l) fun y hy e => hp'.1 y hy (h2 x List.mem_cons_self y (List.mem_cons_of_mem _ hy) q e)]
      show (putS [] x).length+0≤64
      rw [putS_2 q]
      have:=nf_setlen (hn x List.mem_cons_self)
      simpa using this
    · have h1 := putSs_one hp'.2 (fun y hy => hn y (List.mem_cons_of_mem _ hy)) fun y hy z hz => h2 y (List.mem_cons_of_mem _ hy) z (List.mem_cons_of_mem _ hz)
      show (putS [] x).length+_≤64
      rw [putS_x q];simpa using h1
theorem altF_syms {t:Rx} (h:Nf t):(putSs (altF t)).length≤64:=by
  by_cases h4:t.kind=4
  · obtain ⟨e, h2, hn, hkk, hs, h22, _⟩ := h.k4 h4
    rw [altF_4 h4]
    exact putSs_one (List.Pairwise.imp (fun h=>h.2) hs) hn h22
  · rw [altF_x h4]
    exact putSs_one (List.pairwise_singleton _ _) (fun x hx=>by rw [List.mem_singleton.1 hx];exact h) fun x hx y hy _ _=>by rw [List.mem_singleton.1 hx,List.mem_singleton.1 hy]
theorem altS_len:∀ {m:List Rx},(∀ x∈m,Nf x)→(altS m).length≤m.length*64
  | [],_=>Nat.zero_le _
  | x :: m, h => by
    show (putSs (altF x++altL m)).length≤_
    rw [putSs_append,List.length_cons,Nat.succ_mul]
    have h1:=altS_len (m:=m) fun y hy=>h y (List.mem_cons_of_mem _ hy)
    have h2:=altF_syms (h x List.mem_cons_self)
    have h3:(putSs (altL m)).length=(altS m).length:=rfl
    omega
theorem dRq_len (b:Int):∀ l:List Rx,(dRq b l).length≤l.length
  | []=>by rw [dRq];exact Nat.zero_le _
  | x :: l => by
    have h:=dRq_len b l
    rw [dRq]
    split<;>simp only [List.length_cons,List.length_nil]<;>omega
section
variable {S N K B:Nat} (hK:2*S*(N+2)+66≤K) (hB:K*K≤B)
include hK hB
theorem K_le:K≤B∧K*64≤B:=by
  have h1:=S_le hK
  have h2:K*64≤K*K:=Nat.mul_le_mul_left _ (by omega)
  have h3:K*1≤K*64:=Nat.mul_le_mul_left _ (by omega)
  omega
theorem ls_cvd {x:Rx} (hx:Nf x) (hS:x.size≤S) {v:List Int} (hv:v.length≤N+1) {m:List Rx} (hm:m.length≤K) (h:∀ y∈m,Cvd x v y∨(Nf y∧y.kind≤2)):LsOk B m:=by
  have hKB:=K_le hK hB
  have h0:=S_le hK
  have hn:∀ y∈m,Nf y:=fun y hy=>by rcases h y hy with h|h;exact h.nf;exact h.1
  refine ⟨?_,?_,fun y hy=>?_⟩
  · have h1 := altS_len hn
    have h2:m.length*64≤K*64:=Nat.mul_le_mul_right _ hm
    omega
  · have h1 := altL_len (m := m) (n := K) fun y hy => by
      rcases h y hy with q|q
      · exact Nat.le_trans (cvd_len hx q) (room_le hK hS hv)
      · rw [altF_x (by omega)];show 1≤K;omega
    have h2:=altK_len m
    have h3:m.length*K≤K*K:=Nat.mul_le_mul_right _ hm
    omega
  · rcases h y hy with q | q
    · have:=wd_cvd hK _ x (Nat.le_refl _) hx hS v hv y q;omega
    · have:=wd_low q.1 q.2;omega
theorem dok_cvd (b : Int) : ∀ (n : Nat) (x : Rx), x.size ≤ n → Nf x → x.size ≤ S → ∀ v : List Int, v.length ≤ N → ∀ t, Cvd x v t → DOk B b t := by
  intro n
  induction n with
  | zero=>intro x h;have:=size_pos x;omega
  | succ n ih =>
  intro x hn hx hS v hv t ht
  have hSK:=S_le hK
  have hKB:=K_le hK hB
  have facF:∀ y u,Nf y→y.size≤S→u.length≤N→(seqF (dR b (Dv y u))).length≤B∧wd (dR b (Dv y u))≤B:=fun y u hy hyS hu=>by
    rw [← Dv_snoc]
    have h1:=cvd_fac hy (cvd_Dv hy (u++[b]))
    have h2:=wd_cvd hK _ y (Nat.le_refl _) hy hyS (u++[b]) (by simp;omega) _ (cvd_Dv hy (u++[b]))
    exact ⟨by omega,by omega⟩
  have self:x.kind=5→DOk B b x:=fun h5=>by
    obtain ⟨y,e,hy,_⟩:=hx.k5 h5
    have hlt:y.size<x.size:=by rw [e];exact size_kid (r:=.mk 5 [] [y]) List.mem_cons_self
    have hm:∀ z∈x.kids,z=y:=fun z hz=>by rw [e] at hz;exact List.mem_singleton.1 hz
    refine .mk (fun q=>by omega) (fun q=>by omega) (fun _ z hz=>?_) fun z hz=>?_
    · rw [hm z hz];exact facF y [] hy (by omega) (Nat.zero_le _)
    · rw [hm z hz];exact ih y (by omega) hy (by omega) [] (Nat.zero_le _) y (cvd_Dv hy [])
  have fac:∀ L f,L∈covT x v→f∈L→DOk B b f∧(seqF (dR b f)).length≤B∧wd (dR b f)≤B:=fun L f hL hf=>by
    rcases fac_of hx v L f hL hf with ⟨y,u,h1,h2,h3,h4⟩|⟨h5,h4⟩
    · rw [h4]
      have:=sufs_le h3
      exact ⟨ih y (by omega) h2 (by omega) u (by omega) _ (cvd_Dv h2 u),facF y u h2 (by omega) (by omega)⟩
    · rw [h4];exact ⟨self h5,facF x [] hx hS (Nat.zero_le _)⟩
  have node:∀ a,Nf a→(a.kind=3∨a.kind=5)→seqF a∈covT x v→DOk B b a:=fun a ha hk hc=>by
    rcases hk with hk|hk
    · obtain ⟨e, h2, hnk, _⟩ := ha.k3 hk
      have h3:=cov_mlen hx v _ hc
      have h4:=wt_size hx
      rw [seqF_3 hk] at h3
      have hf:∀ y∈a.kids,DOk B b y∧(seqF (dR b y)).length≤B∧wd (dR b y)≤B:=fun y hy=>fac _ y hc (by rw [seqF_3 hk];exact hy)
      refine .mk (fun q=>by omega) (fun _=>?_) (fun _ z hz=>(hf z hz).2) fun z hz=>(hf z hz).1
      refine ls_cvd hK hB hx hS (v:=v++[b]) (by simp;omega) (by have:=dRq_len b a.kids;omega) fun y hy=>?_
      obtain ⟨i,hi,rfl⟩:=dRq_mem hy
      exact .inl (cvd_dQ hx ha hk hc b hi)
    · exact (fac _ a hc (by rw [seqF_x (by omega) (by omega)];exact List.mem_cons_self)).1
  have low:∀ y,Nf y→y.kind≤2→DOk B b y:=fun y hy hk=>by
    have e:y.kids=[]:=by
      have h1:=wd_low hy hk
      cases hy with
      | none=>rfl
      | empty=>rfl
      | set h=>rfl
      | seq h1 h2 h3=>exact absurd hk (by show ¬ (3:Int)≤2;decide)
      | alt h1 h2 h3 h4 h5 h6=>exact absurd hk (by show ¬ (4:Int)≤2;decide)
      | star h1 h2 h3=>exact absurd hk (by show ¬ (5:Int)≤2;decide)
    exact .mk (fun q=>by omega) (fun q=>by omega) (fun q=>by omega) fun z hz=>by rw [e] at hz;cases hz
  have hkk:=ht.nf.kinds
  by_cases h4:t.kind=4
  · obtain ⟨e, h2, hnk, hk4, _⟩ := ht.nf.k4 h4
    have h3:=cvd_len hx ht
    have h5:=room_le hK hS (n:=v.length) (by omega)
    rw [altF_4 h4] at h3
    have hcs:∀ y∈t.kids,y.kind≤2∨((y.kind=3∨y.kind=5)∧seqF y∈covT x v):=fun y hy=>by
      have hyk:=(hnk y hy).kinds
      by_cases q:3≤y.kind
      · have := hk4 y hy
        exact .inr ⟨by omega,ht.als y (als_mem.2 ⟨by rw [altF_4 h4];exact hy,q⟩)⟩
      · exact .inl (by omega)
    refine .mk (fun _=>?_) (fun q=>by omega) (fun q=>by omega) fun y hy=>?_
    · refine ls_cvd hK hB hx hS (v := v ++ [b]) (by simp; omega) (by rw [List.length_map]; omega) fun z hz => ?_
      obtain ⟨y,hy,rfl⟩:=List.mem_map.1 hz
      rcases hcs y hy with q|q
      · refine .inr ⟨dR_nf b (hnk y hy), ?_⟩
        have hyk:=(hnk y hy).kinds
        rw [dR_eq]
        by_cases q2:y.kind=2
        · rw [if_pos q2];split<;>decide
        · rw [if_neg q2,if_neg (by omega),if_neg (by omega),if_neg (by omega)];decide
      · exact .inl (cvd_next hx (hnk y hy) q.1 q.2 b)
    · rcases hcs y hy with q | q
      · exact low y (hnk y hy) q
      · exact node y (hnk y hy) q.1 q.2
  · by_cases q : 3 ≤ t.kind
    · exact node t ht.nf (by omega) (ht.als t (als_self (by omega)))
    · exact low t ht.nf (by omega)
theorem wide_Dv (b:Int) {x:Rx} (hx:Nf x) (hS:x.size≤S) {v:List Int} (hv:v.length≤N):wd (Dv x v)≤B∧DOk B b (Dv x v):=by
  have h1:=wd_cvd hK _ x (Nat.le_refl _) hx hS v (by omega) _ (cvd_Dv hx v)
  have h2:=K_le hK hB
  exact ⟨by omega,dok_cvd hK hB b _ x (Nat.le_refl _) hx hS v hv _ (cvd_Dv hx v)⟩
end
end Go.Wb

namespace Go.Wb
open Go.Am
theorem altL_split (l:List Rx) (i:Nat):altL l=altL (l.take i)++altL (l.drop i):=by
  unfold altL;rw [← List.flatMap_append,List.take_append_drop]
theorem putSs_pre (l m:List Rx):(putSs l).length≤(putSs (l++m)).length:=by rw [putSs_append];omega
theorem putKs_pre (l m:List Rx):(putKs l).length≤(putKs (l++m)).length:=by
  rw [putKs_eq,putKs_eq,List.filter_append,List.length_append];omega
theorem alt_pre (l:List Rx) (i:Nat):(putSs (altL (l.take i))).length≤(altS l).length∧(putKs (altL (l.take i))).length≤(altK l).length:=by
  unfold altS altK
  rw [altL_split l i]
  exact ⟨putSs_pre _ _,putKs_pre _ _⟩
theorem alt_pre2 (l:List Rx) {i:Nat} (hi:i<l.length) (h4:(l.getD i default).kind=4) (j:Nat) :
    (putSs (altL (l.take i)++(l.getD i default).kids.take j)).length≤(altS l).length∧(putKs (altL (l.take i)++(l.getD i default).kids.take j)).length≤(altK l).length:=by
  unfold altS altK
  have e:altL l=(altL (l.take i)++(l.getD i default).kids.take j)++((l.getD i default).kids.drop j++altL (l.drop (i+1))):=by
    rw [altL_split l i,drop_cons hi,altL_cons,altF_4 h4,List.append_assoc]
    conv=>lhs;rw [← List.take_append_drop j (l.getD i default).kids,List.append_assoc]
  rw [e]
  exact ⟨putSs_pre _ _,putKs_pre _ _⟩
theorem altM_len (s:List Int) (k:List Rx):(altM s k).length≤k.length+1:=by
  unfold altM;split
  · rw [List.length_append];exact Nat.le_refl _
  · omega
theorem altM_wd {B:Nat} {l:List Rx} (hS:(altS l).length≤B) (hw:∀ x∈l,wd x≤B):∀ z∈altM (altS l) (altK l),wd z≤B:=fun z hz=>by
  rcases altM_mem.1 hz with h|⟨h0,h⟩
  · obtain ⟨y, hy, hm⟩ := altL_mem.1 (altK_mem.1 h).1
    by_cases h4:y.kind=4
    · rw [altF_4 h4] at hm;exact wd_kid (hw y hy) hm
    · rw [altF_x h4,List.mem_singleton] at hm;rw [hm];exact hw y hy
  · rw [h]
    refine wd_le.2 ⟨⟨?_,Nat.zero_le _⟩,fun x hx=>by cases hx⟩
    show (cpt eqI (sortI (altS l))).length≤B
    have h1:=cpt_len (eq:=eqI) (l:=sortI (altS l))
    rw [sortI_len] at h1
    omega
theorem seqL_split (l:List Rx) (i:Nat):seqL l=seqL (l.take i)++seqL (l.drop i):=by
  unfold seqL;rw [← List.flatMap_append,List.take_append_drop]
theorem seq_room {B:Nat} {l:List Rx} (h:(seqL l).length≤B) (hw:∀ x∈l,wd x≤B):∀ i,i<l.length→(seqL (l.take i)).length+(l.getD i default).kids.length+1≤B+B+1:=fun i hi=>by
  have h1:=(wd_le.1 (hw _ (kid_mem hi))).1.2
  rw [seqL_split l i,List.length_append] at h
  omega
theorem seqF_seqN_len (l:List Rx) (hl:∀ x∈l,Nf x):(seqF (seqN l)).length≤(seqL l).length+1:=by
  by_cases h0:(seqN l).kind=0
  · rw [seqF_x (by omega) (by omega)];exact Nat.le_add_left _ _
  · rw [seqF_seqN hl h0];omega
theorem seqN_wd {B:Nat} {l:List Rx} (h:(seqL l).length≤B) (hw:∀ x∈l,wd x≤B):wd (seqN l)≤B:=by
  have hm:∀ y∈seqL l,wd y≤B:=fun y hy=>by
    obtain ⟨x,hx,hy⟩:=List.mem_flatMap.1 hy
    by_cases h3:x.kind=3
    · rw [seqF_3 h3] at hy;exact wd_kid (hw x hx) hy
    · by_cases h1 : x.kind = 1
      · rw [seqF_1 h1] at hy;cases hy
      · rw [seqF_x h3 h1,List.mem_singleton] at hy;rw [hy];exact hw x hx
  unfold seqN seqE
  split
  · exact wd_le.2 ⟨⟨Nat.zero_le _,Nat.zero_le _⟩,fun x hx=>by cases hx⟩
  · split
    · exact wd_le.2 ⟨⟨Nat.zero_le _,Nat.zero_le _⟩,fun x hx=>by cases hx⟩
    · split
      · next h1=>exact hm _ (kid_mem (by omega))
      · exact wd_le.2 ⟨⟨Nat.zero_le _,h⟩,hm⟩
theorem seqL_drop {r:Rx} (h:Nf r) (h3:r.kind=3) (i:Nat):seqL (r.kids.drop i)=r.kids.drop i:=seqL_self fun x hx=>((h.k3 h3).2.2.2 x (List.mem_of_mem_drop hx)).2
end Go.Wb

