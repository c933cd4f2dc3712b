/-
  Plain functions: the search step by step.
-/
import Derived.Test.YtjimlkpfmbachaaGreatJ13
set_option linter.unusedVariables false
set_option linter.unusedSectionVars false
set_option linter.unusedSimpArgs false
namespace Go.Wd
def leqW (u v:List Nat):Prop:=u=v∨ahead u v=true
theorem leqW.not {u v:List Nat} (h:leqW u v):ahead v u=false:=by
  rcases h with rfl|h
  · unfold ahead;rw [if_neg (by simp),lex_irr]
  · exact ahead_asymm h
theorem leqW.trans {u v w:List Nat} (h:leqW u v) (g:leqW v w):leqW u w:=by
  rcases h with rfl|h
  · exact g
  · rcases g with rfl | g
    · exact .inr h
    · exact .inr (ahead_trans h g)
theorem ahead_nil {v:List Nat} (h:v≠[]):ahead [] v=true:=by
  have:0<v.length:=List.length_pos_iff.2 h
  unfold ahead
  rw [if_pos (show ([]:List Nat).length≠v.length by simp only [List.length_nil];omega)]
  exact decide_eq_true (by simpa using this)
theorem ahead_more (v:List Nat) (s:Nat):ahead v (v++[s])=true:=by
  unfold ahead
  rw [if_pos (by simp),List.length_append]
  exact decide_eq_true (by simp)
theorem ahead_snoc {u v:List Nat} {t s:Nat} (h:ahead u v=true∨(u=v∧t<s)):ahead (u++[t]) (v++[s])=true:=by
  rcases h with h|⟨rfl,h⟩
  · unfold ahead at h ⊢
    rw [List.length_append,List.length_append,List.length_singleton,List.length_singleton]
    by_cases e:u.length=v.length
    · rw [if_neg (by omega)] at h ⊢
      rw [lex_snoc e]
      split
      · next q=>rw [q,lex_irr] at h;cases h
      · exact h
    · rw [if_pos e, decide_eq_true_eq] at h
      rw [if_pos (by omega),decide_eq_true_eq];omega
  · unfold ahead
    rw [if_neg (by simp),lex_snoc rfl,if_pos rfl]
    exact decide_eq_true h
theorem leq_snoc {u v:List Nat} {s:Nat} (h:leqW u v):leqW (u++[s]) (v++[s]):=by
  rcases h with rfl|h
  · exact .inl rfl
  · exact .inr (ahead_snoc (.inl h))
section
variable {K:Type}
theorem inc_get {l:List (Pth K)} (h:Inc l) {i j:Nat} {p q:Pth K} (hi:l[i]?=some p) (hj:l[j]?=some q) (hij:i≤j):leqW p.2 q.2:=by
  by_cases e:i=j
  · subst e;rw [hi] at hj;injection hj with hj;rw [hj];exact .inl rfl
  · obtain ⟨h1, h2⟩ := List.getElem?_eq_some_iff.1 hi
    obtain ⟨h3,h4⟩:=List.getElem?_eq_some_iff.1 hj
    have:=List.pairwise_iff_getElem.1 h i j h1 h3 (by omega)
    rw [h2,h4] at this
    exact .inr this
end
section
variable {K:Type} [DecidableEq K] {next:K→Nat→K} {size:Nat} {start:K} {U:List K} {good:K→Bool}
structure Sk (next:K→Nat→K) (size:Nat) (start:K) (U:List K) (l:List (Pth K)) (i s:Nat):Prop where
  nodup:(l.map (·.1)).Nodup
  sub:∀ p∈l,p.1∈U
  lead:∀ p∈l,Wrd size p.2∧p.2.foldl next start=p.1
  inc:Inc l
  first:l[0]?=some (start,[])
  gen:∀ q∈l,q.2=[]∨∃ (j t:Nat) (r:Pth K),(j<i∨(j=i∧t<s))∧l[j]?=some r∧q.2=r.2++[t]
  cover:∀ j p,l[j]?=some p→∀ t,t<size→(j<i∨(j=i∧t<s))→∃ q∈l,q.1=next p.1 t∧leqW q.2 (p.2++[t])
theorem Sk.all {l : List (Pth K)} {i s : Nat} {p : Pth K} (h : Sk next size start U l i s) (hp : l[i]? = some p) : ∀ q ∈ l, ahead q.2 (p.2 ++ [s]) = true := fun q hq => by
  rcases h.gen q hq with e|⟨j,t,r,hj,hr,e⟩
  · rw [e];exact ahead_nil (by simp)
  · rw [e]
    have hle:=inc_get h.inc hr hp (by omega)
    rcases hle with e2|e2
    · by_cases q2 : j = i
      · exact ahead_snoc (.inr ⟨e2,by omega⟩)
      · -- two places with one word
        exfalso
        obtain ⟨h1,h2⟩:=List.getElem?_eq_some_iff.1 hr
        obtain ⟨h3,h4⟩:=List.getElem?_eq_some_iff.1 hp
        have h5:=List.pairwise_iff_getElem.1 h.inc j i h1 h3 (by omega)
        rw [h2,h4,e2] at h5
        have h6:=ahead_asymm h5
        rw [h5] at h6;cases h6
    · exact ahead_snoc (.inl e2)
theorem Sk.add {l : List (Pth K)} {i s : Nat} {p : Pth K} (h : Sk next size start U l i s) (hU : ∀ x ∈ U, ∀ s, s < size → next x s ∈ U) (hp : l[i]? = some p) (hs : s < size) : Sk next size start U (addW l (next p.1 s) (p.2 ++ [s])) i (s + 1) := by
  have hall:=h.all hp
  have hpm:p∈l:=List.mem_of_getElem? hp
  have hi:=(List.getElem?_eq_some_iff.1 hp).1
  unfold addW
  split
  · next hm =>
    obtain ⟨q,hq,e⟩:=List.mem_map.1 hm
    refine ⟨h.nodup,h.sub,h.lead,h.inc,h.first,fun q hq=>?_,fun j r hr t ht hj=>?_⟩
    · rcases h.gen q hq with g | ⟨j, t, r, g1, g2, g3⟩
      · exact .inl g
      · exact .inr ⟨j,t,r,by omega,g2,g3⟩
    · by_cases hc : j = i ∧ t = s
      · obtain ⟨rfl, rfl⟩ := hc
        rw [hp] at hr;injection hr with hr;subst hr
        exact ⟨q,hq,e,.inr (hall q hq)⟩
      · exact h.cover j r hr t ht (by omega)
  · next hm =>
    have old:∀ {j:Nat} {r:Pth K},l[j]?=some r→(l++[(next p.1 s,p.2++[s])])[j]?=some r:=fun {j r} hr=>by
      rw [List.getElem?_append_left (List.getElem?_eq_some_iff.1 hr).1];exact hr
    have new:∀ {j:Nat} {r:Pth K},j≤i→(l++[(next p.1 s,p.2++[s])])[j]?=some r→l[j]?=some r:=fun {j r} hj hr=>by
      rw [List.getElem?_append_left (by omega)] at hr;exact hr
    refine ⟨?_,fun q hq=>?_,fun q hq=>?_,?_,old h.first,fun q hq=>?_,fun j r hr t ht hj=>?_⟩
    · rw [List.map_append]
      exact List.nodup_append.2 ⟨h.nodup,by simp,fun a ha b hb=>by
        have e:b=next p.1 s:=List.mem_singleton.1 hb
        rw [e];exact fun q=>hm (q ▸ ha)⟩
    · rcases List.mem_append.1 hq with hq | hq
      · exact h.sub q hq
      · rw [List.mem_singleton.1 hq];exact hU _ (h.sub p hpm) s hs
    · rcases List.mem_append.1 hq with hq | hq
      · exact h.lead q hq
      · rw [List.mem_singleton.1 hq]
        obtain ⟨g1,g2⟩:=h.lead p hpm
        refine ⟨fun t ht=>?_,?_⟩
        · rcases List.mem_append.1 ht with ht | ht
          · exact g1 t ht
          · rw [List.mem_singleton.1 ht];exact hs
        · show (p.2 ++ [s]).foldl next start = next p.1 s
          rw [List.foldl_append,g2];rfl
    · exact List.pairwise_append.2 ⟨h.inc,List.pairwise_singleton _ _,fun a ha b hb=>by rw [List.mem_singleton.1 hb];exact hall a ha⟩
    · rcases List.mem_append.1 hq with hq | hq
      · rcases h.gen q hq with g | ⟨j, t, r, g1, g2, g3⟩
        · exact .inl g
        · exact .inr ⟨j,t,r,by omega,old g2,g3⟩
      · rw [List.mem_singleton.1 hq]
        exact .inr ⟨i,s,p,.inr ⟨rfl,Nat.lt_succ_self s⟩,old hp,rfl⟩
    · have hr' := new (by omega) hr
      by_cases hc:j=i∧t=s
      · obtain ⟨rfl, rfl⟩ := hc
        rw [hp] at hr';injection hr' with hr';subst hr'
        exact ⟨_,List.mem_append_right _ (List.mem_singleton.2 rfl),rfl,.inl rfl⟩
      · obtain ⟨q, g1, g2, g3⟩ := h.cover j r hr' t ht (by omega)
        exact ⟨q,List.mem_append_left _ g1,g2,g3⟩
theorem addW_pre (l:List (Pth K)) (k:K) (w:List Nat):l <+: addW l k w:=by
  unfold addW;split
  · exact List.prefix_refl _
  · exact List.prefix_append _ _
theorem Sk.grow {l:List (Pth K)} {i:Nat} {p:Pth K} (h:Sk next size start U l i 0) (hU:∀ x∈U,∀ s,s<size→next x s∈U) (hp:l[i]?=some p):∀ s,s≤size→Sk next size start U (growW next p l s) i s∧l <+: growW next p l s
  | 0,_=>⟨h,List.prefix_refl _⟩
  | s + 1, hs => by
    obtain ⟨h1,h2⟩:=Sk.grow h hU hp s (by omega)
    have hp':(growW next p l s)[i]?=some p:=by
      obtain ⟨r,e⟩:=h2
      rw [← e,List.getElem?_append_left (List.getElem?_eq_some_iff.1 hp).1];exact hp
    exact ⟨h1.add hU hp' (by omega),h2.trans (addW_pre _ _ _)⟩
omit [DecidableEq K] in
theorem Sk.done {l:List (Pth K)} {i:Nat} (h:Sk next size start U l i size):Sk next size start U l (i+1) 0 :=
  ⟨h.nodup,h.sub,h.lead,h.inc,h.first,fun q hq=>by
    rcases h.gen q hq with g|⟨j,t,r,g1,g2,g3⟩
    · exact .inl g
    · exact .inr ⟨j,t,r,by omega,g2,g3⟩,fun j p hp t ht hj=>h.cover j p hp t ht (by omega)⟩
theorem Sk.reach {l : List (Pth K)} {i : Nat} (h : Sk next size start U l i 0) {p : Pth K} (hp : l[i]? = some p ∨ l.length ≤ i) : ∀ (n : Nat) (v : List Nat), v.length = n → Wrd size v → (∃ q ∈ l, q.1 = v.foldl next start ∧ leqW q.2 v) ∨ (l[i]? = some p ∧ ahead p.2 v = true)
  | 0, v, hn, _ => by
    rw [List.eq_nil_of_length_eq_zero hn]
    exact .inl ⟨_,List.mem_of_getElem? h.first,rfl,.inl rfl⟩
  | n + 1, v, hn, hw => by
    obtain ⟨u,s,rfl⟩:∃ u s,v=u++[s]:=⟨v.dropLast,v.getLast (by intro e;rw [e] at hn;cases hn),(List.dropLast_concat_getLast _).symm⟩
    have hu:u.length=n:=by simpa using hn
    have hwu:Wrd size u:=fun t ht=>hw t (List.mem_append_left _ ht)
    have hs:s<size:=hw s (List.mem_append_right _ (List.mem_singleton.2 rfl))
    have hfin:∀ q:Pth K,leqW q.2 u→∀ r:Pth K,leqW r.2 (q.2++[s])→leqW r.2 (u++[s]):=fun q h1 r h2=>h2.trans (leq_snoc h1)
    rcases Sk.reach h hp n u hu hwu with ⟨q,g1,g2,g3⟩|⟨g1,g2⟩
    · obtain ⟨j, hj, e⟩ := List.getElem_of_mem g1
      have hq:l[j]?=some q:=by rw [List.getElem?_eq_getElem hj,e]
      by_cases hji:j<i
      · obtain ⟨r, f1, f2, f3⟩ := h.cover j q hq s hs (.inl hji)
        refine .inl ⟨r,f1,?_,hfin q g3 r f3⟩
        rw [f2,g2,List.foldl_append];rfl
      · rcases hp with hp | hp
        · refine .inr ⟨hp, ?_⟩
          have h1:=(inc_get h.inc hp hq (by omega)).trans g3
          rcases h1 with e1|e1
          · rw [e1];exact ahead_more u s
          · exact ahead_trans e1 (ahead_more u s)
        · omega
    · exact .inr ⟨g1,ahead_trans g2 (ahead_more u s)⟩
def GoodW (next:K→Nat→K) (size:Nat) (start:K) (good:K→Bool) (w:List Nat):Prop:=Wrd size w∧good (w.foldl next start)=true
theorem seek_ok (hU : ∀ x ∈ U, ∀ s, s < size → next x s ∈ U) : ∀ (f i : Nat) (l : List (Pth K)), Sk next size start U l i 0 → (∀ j p, j < i → l[j]? = some p → good p.1 = false) → i ≤ l.length → U.length < f + i →
    match seekW next size good f i l with
    | some w=>IsLeast (GoodW next size start good) w
    | none=>∀ w,¬ GoodW next size start good w
  | 0, i, l, h, hg, hi, hf => by
    have:=nodup_len h.nodup (U:=U) fun x hx=>by
      obtain ⟨p,hp,rfl⟩:=List.mem_map.1 hx
      exact h.sub p hp
    rw [List.length_map] at this
    omega
  | f + 1, i, l, h, hg, hi, hf => by
    cases hx:l[i]? with
    | none =>
      rw [show seekW next size good (f+1) i l=none by rw [seekW,hx]]
      intro w hw
      have hlen:=List.getElem?_eq_none_iff.1 hx
      rcases h.reach (p:=(start,[])) (.inr hlen) _ w rfl hw.1 with ⟨q,g1,g2,_⟩|⟨g1,_⟩
      · obtain ⟨j, hj, e⟩ := List.getElem_of_mem g1
        have:=hg j q (by omega) (by rw [List.getElem?_eq_getElem hj,e])
        rw [g2,hw.2] at this;cases this
      · rw [hx] at g1;cases g1
    | some p =>
      by_cases hgood:good p.1=true
      · rw [show seekW next size good (f + 1) i l = some p.2 by rw [seekW, hx]; exact if_pos hgood]
        obtain ⟨g1,g2⟩:=h.lead p (List.mem_of_getElem? hx)
        refine ⟨⟨g1,by rw [g2];exact hgood⟩,fun v hv=>?_⟩
        rcases h.reach (.inl hx) _ v rfl hv.1 with ⟨q,f1,f2,f3⟩|⟨_,f2⟩
        · obtain ⟨j, hj, e⟩ := List.getElem_of_mem f1
          have hq:l[j]?=some q:=by rw [List.getElem?_eq_getElem hj,e]
          have hji:i≤j:=Nat.le_of_not_lt fun hlt=>by
            have:=hg j q hlt hq
            rw [f2,hv.2] at this;cases this
          exact ((inc_get h.inc hx hq hji).trans f3).not
        · exact ahead_asymm f2
      · rw [show seekW next size good (f + 1) i l = seekW next size good f (i + 1) (growW next p l size) by rw [seekW, hx]; exact if_neg hgood]
        obtain ⟨h1,h2⟩:=h.grow hU hx size (Nat.le_refl _)
        have hlen:=h2.length_le
        have hil:=(List.getElem?_eq_some_iff.1 hx).1
        refine seek_ok hU f (i+1) _ h1.done (fun j q hj hq=>?_) (by omega) (by omega)
        have hq':l[j]?=some q:=by
          obtain ⟨r,e⟩:=h2
          rw [← e,List.getElem?_append_left (by omega)] at hq;exact hq
        by_cases e:j=i
        · subst e
          rw [hx] at hq';injection hq' with hq';subst hq'
          simpa using hgood
        · exact hg j q (by omega) hq'
theorem seek_all (hU:∀ x∈U,∀ s,s<size→next x s∈U) (h0:start∈U):match seekW next size good (U.length+1) 0 [(start,[])] with
    | some w=>IsLeast (GoodW next size start good) w
    | none=>∀ w,¬ GoodW next size start good w :=
  seek_ok hU _ 0 _ ⟨by simp,fun p hp=>by rw [List.mem_singleton.1 hp];exact h0,fun p hp=>by rw [List.mem_singleton.1 hp];exact ⟨fun s hs=>absurd hs (List.not_mem_nil),rfl⟩,List.pairwise_singleton _ _,rfl,fun q hq=>by rw [List.mem_singleton.1 hq];exact .inl rfl,fun j p hp t ht hj=>by omega⟩ (fun j p hj=>absurd hj (Nat.not_lt_zero j)) (Nat.zero_le _) (by omega)
end
end Go.Wd

namespace Go.Wd
/-! ### the complement -/
def flipD (d:Dfa):Dfa:=⟨d.size,d.next,d.fin.map fun b=>!b⟩
def notP (d:Dfa):Dfa:=minP (flipD d)
section
variable {d e:Dfa}
theorem flip_ok (h:okD d):okD (flipD d):=⟨⟨h.1.1,h.1.2.1,by show (d.fin.map _).length=_;rw [List.length_map];exact h.1.2.2⟩,h.2⟩
theorem flip_fn (h:okD d) {q:Nat} (hq:q<d.n):(flipD d).fn q=!(d.fn q):=by
  have hl:q<d.fin.length:=by
    have:=h.1.2.2
    have hq':q<d.next.length:=hq
    omega
  show (d.fin.map fun b=>!b).getD q default=!(d.fin.getD q default)
  rw [List.getD_eq_getElem?_getD,List.getElem?_map,List.getElem?_eq_getElem hl,List.getD_eq_getElem?_getD,List.getElem?_eq_getElem hl];rfl
theorem flip_acc (h:okD d) {w:List Nat} (hw:Wrd d.k w):(flipD d).acc 0 w=!(d.acc 0 w):=flip_fn h (h.run w 0 h.1.2.1.1 hw)
theorem min_acc (h:okD d) {w:List Nat} (hw:Wrd d.k w):(minP d).acc 0 w=d.acc 0 w:=(minP_lang h w hw).symm
theorem not_ok (h:okD d):okD (notP d)∧(notP d).size=d.size∧(notP d).k=d.k:=by
  obtain ⟨h1,h2⟩:=minP_size (flip_ok h)
  exact ⟨(minP_ok (flip_ok h)).1,h1,h2⟩
theorem not_acc (h:okD d) {w:List Nat} (hw:Wrd d.k w):(notP d).acc 0 w=!(d.acc 0 w):=by
  have:=min_acc (flip_ok h) (w:=w) hw
  rw [show notP d=minP (flipD d) from rfl,this,flip_acc h hw]
theorem min_eq (hd:okD d) (he:okD e) (hs:d.size=e.size) (h:∀ w,Wrd d.k w→d.acc 0 w=e.acc 0 w):minP d=minP e:=minP_canon hd he hs h
theorem not_not (h:okD d):notP (notP d)=minP d :=
  min_eq (flip_ok (not_ok h).1) h (not_ok h).2.1 fun w hw=>by
    have hw':Wrd d.k w:=by rw [← (not_ok h).2.2];exact hw
    rw [flip_acc (not_ok h).1 (by rw [(not_ok h).2.2];exact hw'),not_acc h hw',Bool.not_not]
end
/-! ### joins -/
def pnext (a b:Dfa) (x:Nat×Nat) (s:Nat):Nat×Nat:=(a.stp x.1 s,b.stp x.2 s)
def pfin (f:Bool→Bool→Bool) (a b:Dfa) (x:Nat×Nat):Bool:=f (a.fn x.1) (b.fn x.2)
def pairs (n m:Nat):List (Nat×Nat):=(List.range n).flatMap fun i=>(List.range m).map fun j=>(i,j)
def prodP (f:Bool→Bool→Bool) (a b:Dfa):Dfa:=mkD (pnext a b) a.k (pfin f a b) (reach (pnext a b) a.k (a.n*b.n) (0,0))
def joinP (f:Bool→Bool→Bool) (a b:Dfa):Dfa:=minP (prodP f a b)
theorem pairs_mem {n m i j:Nat}:(i,j)∈pairs n m↔i<n∧j<m:=by
  unfold pairs
  rw [List.mem_flatMap]
  constructor
  · rintro ⟨x, hx, h⟩
    obtain ⟨y,hy,e⟩:=List.mem_map.1 h
    injection e with e1 e2
    subst e1;subst e2
    exact ⟨List.mem_range.1 hx,List.mem_range.1 hy⟩
  · exact fun ⟨h1,h2⟩=>⟨i,List.mem_range.2 h1,List.mem_map.2 ⟨j,List.mem_range.2 h2,rfl⟩⟩
theorem pairs_len (n m:Nat):(pairs n m).length=n*m:=by
  unfold pairs
  rw [List.length_flatMap]
  simp only [List.length_map,List.length_range]
  induction n with
  | zero=>simp
  | succ n ih=>rw [List.range_succ,List.map_append,List.sum_append,ih];simp [Nat.succ_mul]
section
variable {a b:Dfa} {f:Bool→Bool→Bool}
theorem pnext_mem (ha:okD a) (hb:okD b) (hk:a.k=b.k):∀ x∈pairs a.n b.n,∀ s,s<a.k→pnext a b x s∈pairs a.n b.n:=fun ⟨i,j⟩ hx s hs=>by
  obtain ⟨h1,h2⟩:=pairs_mem.1 hx
  exact pairs_mem.2 ⟨ha.stp h1 hs,hb.stp h2 (by omega)⟩
theorem prod_met (ha:okD a) (hb:okD b) (hk:a.k=b.k):Met (pnext a b) a.k (pairs a.n b.n) (reach (pnext a b) a.k (a.n*b.n) (0,0)) (reach (pnext a b) a.k (a.n*b.n) (0,0)).length∧[(0,0)] <+: reach (pnext a b) a.k (a.n*b.n) (0,0):=by
  have h:=reach_met (pnext_mem ha hb hk) (start:=(0,0)) (pairs_mem.2 ⟨ha.1.2.1.1,hb.1.2.1.1⟩)
  rw [pairs_len] at h;exact h
theorem prod_run (w:List Nat):∀ x:Nat×Nat,w.foldl (pnext a b) x=(a.run x.1 w,b.run x.2 w):=by
  induction w with
  | nil=>exact fun x=>rfl
  | cons s w ih=>exact fun x=>ih (pnext a b x s)
theorem prod_ok (ha:okD a) (hb:okD b) (hk:a.k=b.k) (hn:a.n*b.n≤2048):okD (prodP f a b)∧(prodP f a b).size=a.size∧(prodP f a b).k=a.k:=by
  obtain ⟨h1,h2⟩:=prod_met ha hb hk
  have h5:=kk ha
  refine ⟨mk_ok h1 (by have:=h2.length_le;simpa using this) (by rw [pairs_len];exact hn) h5.2,h5.1,?_⟩
  show ((a.k:Int)).toNat=a.k
  omega
theorem prod_acc (ha:okD a) (hb:okD b) (hk:a.k=b.k) {w:List Nat} (hw:Wrd a.k w):(prodP f a b).acc 0 w=f (a.acc 0 w) (b.acc 0 w):=by
  obtain ⟨h1,h2⟩:=prod_met ha hb hk
  have h0:(reach (pnext a b) a.k (a.n*b.n) (0,0))[0]?=some (0,0):=by
    obtain ⟨r,e⟩:=h2
    rw [← e];rfl
  have e:=mk_acc (final:=pfin f a b) h1 w 0 _ h0 hw
  rw [show prodP f a b=mkD (pnext a b) a.k (pfin f a b) _ from rfl,e,prod_run];rfl
theorem join_ok (ha:okD a) (hb:okD b) (hk:a.k=b.k) (hn:a.n*b.n≤2048):okD (joinP f a b)∧(joinP f a b).size=a.size∧(joinP f a b).k=a.k:=by
  obtain ⟨h1,h2,h3⟩:=prod_ok (f:=f) ha hb hk hn
  obtain ⟨h4,h5⟩:=minP_size h1
  exact ⟨(minP_ok h1).1,h4.trans h2,h5.trans h3⟩
end
/-! ### reversals -/
def snext (m:Dfa) (x:List Bool) (s:Nat):List Bool:=(List.range m.n).map fun k=>x.getD (m.stp k s) false
def sfin (x:List Bool):Bool:=x.getD 0 false
def bools:Nat→List (List Bool)
  | 0=>[[]]
  | n+1=>(bools n).flatMap fun x=>[false :: x,true :: x]
theorem bools_mem:∀ {n:Nat} {x:List Bool},x.length=n→x∈bools n
  | 0,x,h=>by rw [List.eq_nil_of_length_eq_zero h];exact List.mem_singleton.2 rfl
  | n + 1, b :: x, h => by
    rw [bools,List.mem_flatMap]
    exact ⟨x,bools_mem (by simpa using h),by cases b<;>simp⟩
theorem bools_len:∀ n:Nat,(bools n).length=2 ^ n
  | 0=>rfl
  | n + 1 => by
    rw [bools,List.length_flatMap]
    have h:∀ l:List (List Bool),(l.map fun x=>([false :: x,true :: x]:List (List Bool)).length).sum=2*l.length:=by
      intro l
      induction l with
      | nil=>rfl
      | cons x l ih=>rw [List.map_cons,List.sum_cons,ih,List.length_cons];simp;omega
    rw [h,bools_len n,Nat.pow_succ];omega
def subD (m:Dfa):Dfa:=mkD (snext m) m.k sfin (reach (snext m) m.k (2 ^ m.n) m.fin)
def revP (d:Dfa):Dfa:=minP (subD (minP d))
section
variable {m d:Dfa}
theorem snext_len (m:Dfa) (x:List Bool) (s:Nat):(snext m x s).length=m.n:=by unfold snext;simp
theorem sub_met (h:okD m):Met (snext m) m.k (bools m.n) (reach (snext m) m.k (2 ^ m.n) m.fin) (reach (snext m) m.k (2 ^ m.n) m.fin).length∧[m.fin] <+: reach (snext m) m.k (2 ^ m.n) m.fin:=by
  have h1:=reach_met (next:=snext m) (size:=m.k) (U:=bools m.n) (start:=m.fin) (fun x _ s _=>bools_mem (snext_len m x s)) (bools_mem h.1.2.2)
  rw [bools_len] at h1;exact h1
theorem sub_ok (h:okD m) (hn:m.n≤11):okD (subD m)∧(subD m).size=m.size∧(subD m).k=m.k:=by
  obtain ⟨h1,h2⟩:=sub_met h
  have h5:=kk h
  have h6:2 ^ m.n≤2 ^ 11:=Nat.pow_le_pow_right (by decide) hn
  refine ⟨mk_ok h1 (by have:=h2.length_le;simpa using this) (by rw [bools_len];exact h6) h5.2,h5.1,?_⟩
  show ((m.k:Int)).toNat=m.k
  omega
theorem rev_ok (h:okD d) (hn:d.n≤11):okD (revP d)∧(revP d).size=d.size∧(revP d).k=d.k:=by
  obtain ⟨h1,h2⟩:=minP_ok h
  obtain ⟨h3,h4⟩:=minP_size h
  obtain ⟨g1,g2,g3⟩:=sub_ok h1 (by omega)
  obtain ⟨f1,f2⟩:=minP_size g1
  exact ⟨(minP_ok g1).1,f1.trans (g2.trans h3),f2.trans (g3.trans h4)⟩
end
end Go.Wd

namespace Go.Wd
abbrev M64:Int:=18446744073709551616
def addAt (u:List Int) (q:Nat) (z:Int):List Int:=u.set q ((u.getD q 0+z) % M64)
def cRow (d:Dfa) (z:Int) (i:Nat) (u:List Int):Nat→List Int
  | 0=>u
  | s+1=>addAt (cRow d z i u s) (d.stp i s) z
def cStepN (d:Dfa) (v:List Int):Nat→List Int
  | 0=>List.replicate d.n 0
  | i+1=>cRow d (v.getD i 0) i (cStepN d v i) d.k
def cVec (d:Dfa):Nat→List Int
  | 0=>(List.replicate d.n 0).set 0 1
  | t+1=>cStepN d (cVec d t) d.n
def cSum (d:Dfa) (v:List Int):Nat→Int
  | 0=>0
  | i+1=>if d.fn i=true then (cSum d v i+v.getD i 0) % M64 else cSum d v i
def countP (d:Dfa) (t:Nat):Int:=cSum d (cVec d t) d.n
def wrds (k:Nat):Nat→List (List Nat)
  | 0=>[[]]
  | t+1=>(wrds k t).flatMap fun w=>(List.range k).map fun s=>w++[s]
def howMany (k t:Nat) (P:List Nat→Bool):Nat:=((wrds k t).filter P).length
section
variable {d:Dfa}
theorem addAt_len (u:List Int) (q:Nat) (z:Int):(addAt u q z).length=u.length:=by unfold addAt;simp
theorem cRow_len (z:Int) (i:Nat) (u:List Int):∀ s,(cRow d z i u s).length=u.length
  | 0=>rfl
  | s+1=>by rw [cRow,addAt_len,cRow_len z i u s]
theorem cStepN_len (v:List Int):∀ i,(cStepN d v i).length=d.n
  | 0=>by rw [cStepN];simp
  | i+1=>by rw [cStepN,cRow_len,cStepN_len v i]
theorem cVec_len:∀ t,(cVec d t).length=d.n
  | 0=>by rw [cVec];simp
  | t+1=>by rw [cVec,cStepN_len]
def hits (d:Dfa) (i q:Nat):Nat→Nat
  | 0=>0
  | s+1=>hits d i q s+if d.stp i s=q then 1 else 0
def sumTo (f:Nat→Nat):Nat→Nat
  | 0=>0
  | i+1=>sumTo f i+f i
def Cn (d:Dfa) (t q:Nat):Nat:=howMany d.k t fun w=>decide (d.run 0 w=q)
end
end Go.Wd

namespace Go.Wd
def leastP (d:Dfa):Option (List Nat):=seekW d.stp d.k d.fn (d.n+1) 0 [(0,[])]
def dgood (a b:Dfa) (x:Nat×Nat):Bool:=!(a.fn x.1 == b.fn x.2)
def diffP (a b:Dfa):Option (List Nat):=seekW (pnext a b) a.k (dgood a b) (a.n*b.n+1) 0 [((0,0),[])]
def First (P:List Nat→Prop) (o:Option (List Nat)):Prop:=match o with
  | some w=>IsLeast P w
  | none=>∀ w,¬ P w
theorem first_unique {P Q:List Nat→Prop} (hPQ:∀ w,P w↔Q w) {o r:Option (List Nat)} (ho:First P o) (hr:First Q r):o=r:=by
  have e:P=Q:=funext fun w=>propext (hPQ w)
  subst e
  cases o with
  | none =>
    cases r with
    | none=>rfl
    | some w=>exact absurd hr.1 (ho w)
  | some v =>
    cases r with
    | none=>exact absurd ho.1 (hr v)
    | some w=>rw [least_unique ho hr]
section
variable {a b d:Dfa}
theorem least_first (h:okD d):First (fun w=>Wrd d.k w∧d.acc 0 w=true) (leastP d):=by
  have hs:=seek_all (next:=d.stp) (size:=d.k) (start:=0) (U:=List.range d.n) (good:=d.fn) (fun x hx s hs=>List.mem_range.2 (h.stp (List.mem_range.1 hx) hs)) (List.mem_range.2 h.1.2.1.1)
  rw [List.length_range] at hs
  exact hs
theorem diff_first (ha:okD a) (hb:okD b) (hk:a.k=b.k):First (fun w=>Wrd a.k w∧a.acc 0 w≠b.acc 0 w) (diffP a b):=by
  have hs:=seek_all (next:=pnext a b) (size:=a.k) (start:=(0,0)) (U:=pairs a.n b.n) (good:=dgood a b) (pnext_mem ha hb hk) (pairs_mem.2 ⟨ha.1.2.1.1,hb.1.2.1.1⟩)
  rw [pairs_len] at hs
  have e:GoodW (pnext a b) a.k (0,0) (dgood a b)=fun w=>Wrd a.k w∧a.acc 0 w≠b.acc 0 w:=by
    funext w
    unfold GoodW dgood
    rw [prod_run]
    refine propext ⟨fun q=>⟨q.1,fun e=>?_⟩,fun q=>⟨q.1,?_⟩⟩
    · have h2 := q.2
      have e':a.fn (a.run 0 w)=b.fn (b.run 0 w):=e
      simp [e'] at h2
    · have h2 : ¬ a.fn (a.run 0 w) = b.fn (b.run 0 w) := q.2
      simp [h2]
  rw [e] at hs
  exact hs
def pickW (o r:Option (List Nat)):Option (List Nat):=match o,r with
  | some v,some w=>if ahead v w=true then some v else some w
  | some v,none=>some v
  | none,r=>r
theorem pick_first {P Q : List Nat → Prop} {o r : Option (List Nat)} (ho : First P o) (hr : First Q r) : First (fun w => P w ∨ Q w) (pickW o r) := by
  cases o with
  | none =>
    cases r with
    | none=>exact fun w h=>h.elim (ho w) (hr w)
    | some w=>exact ⟨.inr hr.1,fun v hv=>hv.elim (fun h=>absurd h (ho v)) (hr.2 v)⟩
  | some v =>
    cases r with
    | none=>exact ⟨.inl ho.1,fun u hu=>hu.elim (ho.2 u) fun h=>absurd h (hr u)⟩
    | some w =>
      show First _ (if ahead v w=true then some v else some w)
      split
      · next h =>
        refine ⟨.inl ho.1,fun u hu=>hu.elim (ho.2 u) fun hq=>?_⟩
        cases hc:ahead u v with
        | false=>rfl
        | true =>
          have:=hr.2 u hq
          rw [ahead_trans hc h] at this;cases this
      · next h =>
        refine ⟨.inr hr.1,fun u hu=>hu.elim (fun hp=>?_) (hr.2 u)⟩
        cases hc:ahead u w with
        | false=>rfl
        | true =>
          -- then u is no later than w, and v is no later than u
          exfalso
          have h1:=ho.2 u hp
          by_cases e:v=w
          · rw [e,hc] at h1;cases h1
          · rcases ahead_tot e with q | q
            · exact h q
            · have := ho.2 u hp
              rw [ahead_trans hc q] at this;cases this
def rdiffP (a b:Dfa):Option (List Nat):=pickW (leastP (prodP (fun x y=>x&&y) a (notP b))) (leastP (prodP (fun x y=>x&&y) (notP a) b))
theorem rdiff_eq (ha:okD a) (hb:okD b) (hs:a.size=b.size) (hn:a.n*b.n≤2048):rdiffP a b=diffP a b:=by
  have hk:a.k=b.k:=by unfold Dfa.k;rw [hs]
  obtain ⟨ga,ga2,ga3⟩:=not_ok ha
  obtain ⟨gb,gb2,gb3⟩:=not_ok hb
  have na:(notP a).n≤a.n:=(minP_ok (flip_ok ha)).2
  have nb:(notP b).n≤b.n:=(minP_ok (flip_ok hb)).2
  have m1:a.n*(notP b).n≤2048:=Nat.le_trans (Nat.mul_le_mul_left _ nb) hn
  have m2:(notP a).n*b.n≤2048:=Nat.le_trans (Nat.mul_le_mul_right _ na) hn
  have kx:a.k=(notP b).k:=by omega
  have ky:(notP a).k=b.k:=by omega
  obtain ⟨x1,x2,x3⟩:=prod_ok (f:=fun x y=>x&&y) ha gb kx m1
  obtain ⟨y1,y2,y3⟩:=prod_ok (f:=fun x y=>x&&y) ga hb ky m2
  refine first_unique (fun w=>?_) (pick_first (least_first x1) (least_first y1)) (diff_first ha hb hk)
  have hx:∀ {w},Wrd a.k w→(prodP (fun x y=>x&&y) a (notP b)).acc 0 w=(a.acc 0 w&&!(b.acc 0 w)):=fun {w} hw=>by
    rw [prod_acc ha gb kx hw,not_acc hb (by rw [← hk];exact hw)]
  have hy:∀ {w},Wrd a.k w→(prodP (fun x y=>x&&y) (notP a) b).acc 0 w=(!(a.acc 0 w)&&b.acc 0 w):=fun {w} hw=>by
    rw [prod_acc ga hb ky (by rw [ga3];exact hw),not_acc ha hw]
  rw [x3,y3,ga3]
  constructor
  · rintro (⟨h1, h2⟩ | ⟨h1, h2⟩)
    · rw [hx h1] at h2
      refine ⟨h1,fun e=>?_⟩
      rw [e] at h2;cases hb2:b.acc 0 w<;>rw [hb2] at h2<;>cases h2
    · rw [hy h1] at h2
      refine ⟨h1,fun e=>?_⟩
      rw [e] at h2;cases hb2:b.acc 0 w<;>rw [hb2] at h2<;>cases h2
  · rintro ⟨h1, h2⟩
    rw [hx h1,hy h1]
    cases ha2:a.acc 0 w<;>cases hb2:b.acc 0 w<;>rw [ha2,hb2] at h2
    · exact absurd rfl h2
    · exact .inr ⟨h1,rfl⟩
    · exact .inl ⟨h1,rfl⟩
    · exact absurd rfl h2
end
end Go.Wd

namespace Go.Wd
open Go.Am
section
variable {K:Type}
abbrev Stp (K:Type):Type:=K×Int×Int
instance {K:Type} [Inhabited K]:Inhabited (Pth K):=⟨(default,[])⟩
structure Tr [Inhabited K] (T:List (Stp K)) (P:List (Pth K)):Prop where
  len:T.length=P.length
  key:∀ j,j<P.length→(T.getD j default).1=(P.getD j default).1
  way:∀ j,j<P.length→((T.getD j default).2.1=-1∧(P.getD j default).2=[])∨∃ f s:Nat,f<j∧(T.getD j default).2.1=(f:Int)∧(T.getD j default).2.2=(s:Int)∧(P.getD j default).2=(P.getD f default).2++[s]
theorem get_left {α:Type} [Inhabited α] {l:List α} {x:α} {j:Nat} (h:j<l.length):(l++[x]).getD j default=l.getD j default:=by
  rw [List.getD_eq_getElem?_getD,List.getElem?_append_left h,← List.getD_eq_getElem?_getD]
theorem get_right {α:Type} [Inhabited α] {l:List α} {x:α}:(l++[x]).getD l.length default=x:=by
  rw [List.getD_eq_getElem?_getD,List.getElem?_append_right (Nat.le_refl _),Nat.sub_self];rfl
theorem Tr.start [Inhabited K] (k:K):Tr [(k,-1,0)] [(k,[])]:=⟨rfl,fun j hj=>by
  have:j=0:=by simpa using hj
  subst this;rfl,fun j hj=>by
  have:j=0:=by simpa using hj
  subst this;exact .inl ⟨rfl,rfl⟩⟩
theorem Tr.snoc [Inhabited K] {T:List (Stp K)} {P:List (Pth K)} (h:Tr T P) {k:K} {i s:Nat} (hi:i<P.length):Tr (T++[(k,(i:Int),(s:Int))]) (P++[(k,(P.getD i default).2++[s])]):=by
  have hl:=h.len
  refine ⟨by rw [List.length_append,List.length_append,hl];rfl,fun j hj=>?_,fun j hj=>?_⟩<;>rw [List.length_append] at hj<;>simp only [List.length_cons,List.length_nil] at hj
  · by_cases q : j < P.length
    · rw [get_left (show j<T.length by omega),get_left q];exact h.key j q
    · obtain rfl : j = P.length := by omega
      rw [get_right,← hl,get_right]
  · by_cases q : j < P.length
    · rw [get_left (show j < T.length by omega), get_left q]
      rcases h.way j q with q2|⟨f,t,q1,q2,q3,q4⟩
      · exact .inl q2
      · exact .inr ⟨f,t,q1,q2,q3,by rw [get_left (show f<P.length by omega)];exact q4⟩
    · obtain rfl : j = P.length := by omega
      refine .inr ⟨i,s,hi,?_,?_,?_⟩
      · rw [← hl,get_right]
      · rw [← hl,get_right]
      · rw [get_right,get_left hi]
end
section
variable {K:Type} [DecidableEq K] [Inhabited K]
structure Sr (next:K→Nat→K) (size:Nat) (start:K) (U:List K) (good:K→Bool) (N:Nat) (T:List (Stp K)) (P:List (Pth K)) (i:Nat):Prop where
  tr:Tr T P
  sk:Sk next size start U P i 0
  eq:seekW next size good (N+1) 0 [(start,[])]=seekW next size good (N+1-i) i P
  le:i≤P.length
variable {next:K→Nat→K} {size:Nat} {start:K} {U:List K} {good:K→Bool} {N i:Nat} {T:List (Stp K)} {P:List (Pth K)}
omit [Inhabited K] in
theorem sk_len {s:Nat} (h:Sk next size start U P i s):P.length≤U.length:=by
  have:=nodup_len h.nodup (U:=U) fun x hx=>by
    obtain ⟨p,hp,rfl⟩:=List.mem_map.1 hx
    exact h.sub p hp
  rwa [List.length_map] at this
theorem sr_start (h0:start∈U):Sr next size start U good N [(start,-1,0)] [(start,[])] 0 :=
  ⟨Tr.start start,⟨by simp,fun p hp=>by rw [List.mem_singleton.1 hp];exact h0,fun p hp=>by rw [List.mem_singleton.1 hp];exact ⟨fun s hs=>absurd hs (List.not_mem_nil),rfl⟩,List.pairwise_singleton _ _,rfl,fun q hq=>by rw [List.mem_singleton.1 hq];exact .inl rfl,fun j p hp t ht hj=>by omega⟩,rfl,Nat.zero_le _⟩
omit [DecidableEq K] in
theorem pth_get (hi:i<P.length):P[i]?=some (P.getD i default):=by rw [List.getElem?_eq_getElem hi,el_get hi]
theorem Sr.hit (h:Sr next size start U good N T P i) (hN:U.length≤N) (hi:i<P.length) (hg:good (P.getD i default).1=true):seekW next size good (N+1) 0 [(start,[])]=some (P.getD i default).2:=by
  have hl:=sk_len h.sk
  rw [h.eq,show N+1-i=(N-i)+1 by omega,seekW,pth_get hi]
  simp only []
  rw [if_pos hg]
theorem Sr.miss (h:Sr next size start U good N T P i) (hi:P.length≤i):seekW next size good (N+1) 0 [(start,[])]=none:=by
  rw [h.eq]
  cases N+1-i with
  | zero=>rfl
  | succ f=>rw [seekW,List.getElem?_eq_none hi]
theorem Sr.step (h:Sr next size start U good N T P i) (hU:∀ x∈U,∀ s,s<size→next x s∈U) (hN:U.length≤N) (hi:i<P.length) (hg:good (P.getD i default).1=false) {T':List (Stp K)} (hT:Tr T' (growW next (P.getD i default) P size)) :
    Sr next size start U good N T' (growW next (P.getD i default) P size) (i+1):=by
  have hl:=sk_len h.sk
  obtain ⟨h1,h2⟩:=h.sk.grow hU (pth_get hi) size (Nat.le_refl _)
  refine ⟨hT,h1.done,?_,by have:=h2.length_le;omega⟩
  rw [h.eq,show N+1-i=(N+1-(i+1))+1 by omega,seekW,pth_get hi]
  simp only []
  rw [if_neg (by rw [hg];decide)]
theorem Sr.grow (h:Sr next size start U good N T P i) (hU:∀ x∈U,∀ s,s<size→next x s∈U) (hi:i<P.length) {s:Nat} (hs:s≤size):(growW next (P.getD i default) P s).length≤U.length∧P <+: growW next (P.getD i default) P s:=by
  obtain ⟨h1,h2⟩:=h.sk.grow hU (pth_get hi) s hs
  exact ⟨sk_len h1,h2⟩
omit [Inhabited K] in
theorem growW_old {p:Pth K} {l:List (Pth K)} {s:Nat} (h:next p.1 s∈(growW next p l s).map (·.1)):growW next p l (s+1)=growW next p l s:=by rw [growW];unfold addW;rw [if_pos h]
omit [Inhabited K] in
theorem growW_new {p:Pth K} {l:List (Pth K)} {s:Nat} (h:next p.1 s ∉ (growW next p l s).map (·.1)):growW next p l (s+1)=growW next p l s++[(next p.1 s,p.2++[s])]:=by rw [growW];unfold addW;rw [if_neg h]
/-! what is seen -/
abbrev keysW (l:List (Pth K)):List K:=l.map (·.1)
abbrev ksW (kv:K→Value) (l:List (Pth K)):List Value:=(keysW l).map kv
abbrev vsW (n:Nat):List AV:=(List.replicate n true).map bool
variable {kv:K→Value}
omit [Inhabited K] in
theorem look_w (hk:∀ a b,kv a=kv b→a=b) (l:List (Pth K)) (k:K):mlook (bool false) (ksW kv l) (vsW l.length) (kv k)=bool (decide (k∈keysW l)):=by
  by_cases q:k∈keysW l
  · rw [decide_eq_true q]
    unfold mlook
    rw [kpos_map (g:=kv) (fun b _ e=>hk b k e),if_pos q]
    simp only []
    rw [List.getD_eq_getElem?_getD,List.getElem?_map,List.getElem?_replicate,if_pos (by have:=List.idxOf_lt_length_of_mem q;rwa [List.length_map] at this)];rfl
  · rw [decide_eq_false q,mlook_not (fun b _ e=>hk b k e) q]
omit [Inhabited K] in
theorem put_kw (hk:∀ a b,kv a=kv b→a=b) {l:List (Pth K)} {k:K} {w:List Nat} (q:k ∉ keysW l):putK (ksW kv l) (kv k)=ksW kv (l++[(k,w)]):=by
  rw [ksW,putK_map (fun b _ e=>hk b k e) q]
  simp [ksW,keysW]
omit [Inhabited K] in
theorem put_vw (hk:∀ a b,kv a=kv b→a=b) {l:List (Pth K)} {k:K} {w:List Nat} (q:k ∉ keysW l):putV (ksW kv l) (vsW l.length) (kv k) (bool true)=vsW (l++[(k,w)]).length:=by
  rw [ksW,putV_map (fun b _ e=>hk b k e) q,List.length_append]
  simp only [vsW,List.length_cons,List.length_nil]
  rw [List.replicate_succ' (n:=l.length),List.map_append];rfl
abbrev natL (w:List Nat):List Int:=w.map fun n:Nat=>(n:Int)
theorem natL_snoc (w:List Nat) (s:Nat):natL (w++[s])=natL w++[(s:Int)]:=by rw [natL,List.map_append];rfl
theorem natL_nats (w:List Nat):(natL w).map int=w.map natI:=by rw [List.map_map];rfl
abbrev resW (o:Option (List Nat)):AV:=nats (o.getD [])
end
abbrev stpN (t:Stp Nat):AV:=.agg [natI t.1,int t.2.1,int t.2.2]
abbrev stpP (t:Stp (Nat×Nat)):AV:=.agg [natI t.1.1,natI t.1.2,int t.2.1,int t.2.2]
end Go.Wd

