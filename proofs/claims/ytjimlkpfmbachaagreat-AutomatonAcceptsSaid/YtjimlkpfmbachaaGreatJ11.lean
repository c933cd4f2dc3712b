/-
  A region whose order is drawn,in which one store turns the call's own objects,among pure ones.
-/
import Derived.Test.YtjimlkpfmbachaaGreatJ6
import Derived.Test.YtjimlkpfmbachaaGreatJ10
import Derived.Test.YtjimlkpfmbachaaGreatJ9
set_option linter.unusedVariables false
set_option linter.unusedSectionVars false
set_option linter.unusedSimpArgs false
namespace Go.Wd
section
variable {K:Type} [DecidableEq K]
def addK (l:List K) (k:K):List K:=if k∈l then l else l++[k]
variable (next:K→Nat→K) (size:Nat)
def grow (x:K) (l:List K):Nat→List K
  | 0=>l
  | s+1=>addK (grow x l s) (next x s)
def clos : Nat → Nat → List K → List K
  | 0,_,l=>l
  | f + 1, i, l => match l[i]? with
    | none=>l
    | some x=>clos f (i+1) (grow next x l size)
end
section
variable {K:Type} [DecidableEq K]
theorem addK_mem {l:List K} {k x:K}:x∈addK l k↔x∈l∨x=k:=by
  unfold addK
  split
  · next h=>exact ⟨.inl,fun q=>q.elim id fun e=>by rw [e];exact h⟩
  · rw [List.mem_append,List.mem_singleton]
theorem addK_pre (l:List K) (k:K):l <+: addK l k:=by
  unfold addK
  split
  · exact List.prefix_refl _
  · exact List.prefix_append _ _
theorem addK_nodup {l:List K} {k:K} (h:l.Nodup):(addK l k).Nodup:=by
  unfold addK
  split
  · exact h
  · next q=>exact List.nodup_append.2 ⟨h,by simp,fun a ha b hb=>by rw [List.mem_singleton.1 hb];exact fun e=>q (e ▸ ha)⟩
variable {next:K→Nat→K} {size:Nat}
theorem grow_pre (x:K) (l:List K):∀ s,l <+: grow next x l s
  | 0=>List.prefix_refl _
  | s+1=>(grow_pre x l s).trans (addK_pre _ _)
theorem grow_nodup (x:K) {l:List K} (h:l.Nodup):∀ s,(grow next x l s).Nodup
  | 0=>h
  | s+1=>addK_nodup (grow_nodup x h s)
theorem grow_mem (x : K) (l : List K) {y : K} : ∀ s, y ∈ grow next x l s ↔ y ∈ l ∨ ∃ t, t < s ∧ y = next x t
  | 0=>⟨.inl,fun h=>h.elim id fun ⟨t,ht,_⟩=>absurd ht (Nat.not_lt_zero t)⟩
  | s + 1 => by
    rw [grow,addK_mem,grow_mem x l s]
    constructor
    · rintro ((h | ⟨t, ht, e⟩) | e)
      · exact .inl h
      · exact .inr ⟨t,by omega,e⟩
      · exact .inr ⟨s,by omega,e⟩
    · rintro (h | ⟨t, ht, e⟩)
      · exact .inl (.inl h)
      · by_cases q : t = s
        · subst q;exact .inr e
        · exact .inl (.inr ⟨t,by omega,e⟩)
structure Met (next:K→Nat→K) (size:Nat) (U l:List K) (i:Nat):Prop where
  nodup:l.Nodup
  le:i≤l.length
  sub:∀ x∈l,x∈U
  met:∀ j x,j<i→l[j]?=some x→∀ s,s<size→next x s∈l
theorem Met.step {U l:List K} {i:Nat} {x:K} (h:Met next size U l i) (hU:∀ x∈U,∀ s,s<size→next x s∈U) (hx:l[i]?=some x):Met next size U (grow next x l size) (i+1):=by
  have hp:=grow_pre (next:=next) x l size
  have hi:=(List.getElem?_eq_some_iff.1 hx).1
  have hl:=hp.length_le
  have hxl:x∈l:=List.mem_of_getElem? hx
  refine ⟨grow_nodup x h.nodup size,by omega,fun y hy=>?_,fun j y hj hy s hs=>?_⟩
  · rcases (grow_mem x l size).1 hy with q | ⟨t, ht, e⟩
    · exact h.sub y q
    · rw [e];exact hU x (h.sub x hxl) t ht
  · have hyl : l[j]? = some y := by
      obtain ⟨r,e⟩:=hp
      rw [← e,List.getElem?_append_left (by omega)] at hy;exact hy
    by_cases q:j=i
    · subst q
      rw [hx] at hyl
      injection hyl with e;subst e
      exact (grow_mem x l size).2 (.inr ⟨s,hs,rfl⟩)
    · exact hp.subset (h.met j y (by omega) hyl s hs)
theorem nodup_len:∀ {l U:List K},l.Nodup→(∀ x∈l,x∈U)→l.length≤U.length
  | [],U,_,_=>Nat.zero_le _
  | x :: l, U, h, hs => by
    have h1:=List.nodup_cons.1 h
    have hx:=hs x List.mem_cons_self
    have h2:=nodup_len (l:=l) (U:=U.erase x) h1.2 fun y hy=>(List.mem_erase_of_ne (a:=y) (b:=x) fun e=>h1.1 (by rw [← e];exact hy)).2 (hs y (List.mem_cons_of_mem _ hy))
    have h3:=List.length_erase_of_mem hx
    have h4:=List.length_pos_of_mem hx
    rw [List.length_cons];omega
theorem clos_none {f i:Nat} {l:List K} (h:l[i]?=none):clos next size (f+1) i l=l:=by rw [clos,h]
theorem clos_some {f i:Nat} {l:List K} {x:K} (h:l[i]?=some x):clos next size (f+1) i l=clos next size f (i+1) (grow next x l size):=by rw [clos,h]
theorem clos_met {U:List K} (hU:∀ x∈U,∀ s,s<size→next x s∈U):∀ (f i:Nat) (l:List K),Met next size U l i→U.length<f+i →
    Met next size U (clos next size f i l) (clos next size f i l).length∧l <+: clos next size f i l
  | 0, i, l, h, hf => by
    have:=nodup_len h.nodup h.sub
    have:=h.le
    omega
  | f + 1, i, l, h, hf => by
    cases hx:l[i]? with
    | none =>
      rw [clos_none hx]
      have h1:=List.getElem?_eq_none_iff.1 hx
      exact ⟨⟨h.nodup,Nat.le_refl _,h.sub,fun j x hj=>h.met j x (by omega)⟩,List.prefix_refl _⟩
    | some x =>
      rw [clos_some hx]
      have h1:=h.step hU hx
      obtain ⟨h2,h3⟩:=clos_met hU f (i+1) _ h1 (by omega)
      exact ⟨h2,(grow_pre x l size).trans h3⟩
def reach (next:K→Nat→K) (size n:Nat) (start:K):List K:=clos next size (n+1) 0 [start]
theorem reach_met {U:List K} {start:K} (hU:∀ x∈U,∀ s,s<size→next x s∈U) (h0:start∈U):Met next size U (reach next size U.length start) (reach next size U.length start).length∧[start] <+: reach next size U.length start :=
  clos_met hU _ 0 [start] ⟨by simp,Nat.zero_le _,fun x hx=>by rw [List.mem_singleton.1 hx];exact h0,fun j x hj=>absurd hj (Nat.not_lt_zero j)⟩ (by omega)
def idx (l:List K) (k:K):Nat:=l.idxOf k
theorem idx_pre {l m:List K} {k:K} (h:l <+: m) (hk:k∈l):idx m k=idx l k:=by
  obtain ⟨r,rfl⟩:=h
  unfold idx;rw [List.idxOf_append,if_pos hk]
theorem idx_lt {l:List K} {k:K} (hk:k∈l):idx l k<l.length:=List.idxOf_lt_length_of_mem hk
theorem idx_get {l:List K} {k:K} (hk:k∈l):l[idx l k]?=some k:=by
  rw [List.getElem?_eq_getElem (idx_lt hk)];exact congrArg some (List.getElem_idxOf (idx_lt hk))
end
section
variable {K K':Type} {R:K→K'→Prop}
inductive All2 (R:K→K'→Prop):List K→List K'→Prop
  | nil:All2 R [] []
  | cons {x:K} {y:K'} {l:List K} {m:List K'}:R x y→All2 R l m→All2 R (x :: l) (y :: m)
theorem All2.len {l:List K} {m:List K'} (h:All2 R l m):l.length=m.length:=by
  induction h with
  | nil=>rfl
  | cons _ _ ih=>rw [List.length_cons,List.length_cons,ih]
theorem All2.get {l:List K} {m:List K'} (h:All2 R l m):∀ i:Nat,(l[i]?=none∧m[i]?=none)∨∃ x y,l[i]?=some x∧m[i]?=some y∧R x y:=by
  induction h with
  | nil=>exact fun i=>.inl ⟨by simp,by simp⟩
  | @cons x y l m h1 h2 ih =>
    intro i
    cases i with
    | zero=>exact .inr ⟨x,y,rfl,rfl,h1⟩
    | succ i=>simpa using ih i
theorem All2.snoc {l:List K} {m:List K'} {x:K} {y:K'} (h:All2 R l m) (hx:R x y):All2 R (l++[x]) (m++[y]):=by
  induction h with
  | nil=>exact .cons hx .nil
  | cons h1 _ ih=>exact .cons h1 ih
theorem All2.mem (hR:∀ x y x' y',R x x'→R y y'→(x=y↔x'=y')) {l:List K} {m:List K'} {x:K} {y:K'} (h:All2 R l m) (hx:R x y):x∈l↔y∈m:=by
  induction h with
  | nil=>simp
  | @cons u v l m h1 _ ih =>
    rw [List.mem_cons,List.mem_cons,ih,hR x u y v hx h1]
end
section
variable {K K':Type} [DecidableEq K] [DecidableEq K'] {next:K→Nat→K} {next':K'→Nat→K'} {size:Nat} {R:K→K'→Prop}
theorem All2.idx (hR:∀ x y x' y',R x x'→R y y'→(x=y↔x'=y')) {l:List K} {m:List K'} {x:K} {y:K'} (h:All2 R l m) (hx:R x y):idx l x=Go.Wd.idx m y:=by
  induction h with
  | nil=>rfl
  | @cons u v l m h1 _ ih =>
    unfold Go.Wd.idx at ih ⊢
    rw [List.idxOf_cons,List.idxOf_cons]
    have e:=hR u x v y h1 hx
    by_cases q:u=x
    · rw [show (u == x)=true from beq_iff_eq.2 q,show (v == y)=true from beq_iff_eq.2 (e.1 q)];rfl
    · rw [show (u == x) = false from beq_eq_false_iff_ne.2 q, show (v == y) = false from beq_eq_false_iff_ne.2 fun q2 => q (e.2 q2)]
      show List.idxOf _ _+1=List.idxOf _ _+1
      rw [ih]
theorem All2.add (hR:∀ x y x' y',R x x'→R y y'→(x=y↔x'=y')) {l:List K} {m:List K'} {x:K} {y:K'} (h:All2 R l m) (hx:R x y):All2 R (addK l x) (addK m y):=by
  unfold addK
  by_cases q:x∈l
  · rw [if_pos q,if_pos ((h.mem hR hx).1 q)];exact h
  · rw [if_neg q,if_neg fun q2=>q ((h.mem hR hx).2 q2)];exact h.snoc hx
theorem grow_sim (hR:∀ x y x' y',R x x'→R y y'→(x=y↔x'=y')) {x:K} {y:K'} (hx:R x y) (hn:∀ s,s<size→R (next x s) (next' y s)) {l:List K} {m:List K'} (h:All2 R l m):∀ s,s≤size→All2 R (grow next x l s) (grow next' y m s)
  | 0,_=>h
  | s+1,hs=>(grow_sim hR hx hn h s (by omega)).add hR (hn s (by omega))
theorem clos_sim (hR:∀ x y x' y',R x x'→R y y'→(x=y↔x'=y')) (hn:∀ x y,R x y→∀ s,s<size→R (next x s) (next' y s)):∀ (f i:Nat) {l:List K} {m:List K'},All2 R l m→All2 R (clos next size f i l) (clos next' size f i m)
  | 0,i,l,m,h=>h
  | f + 1, i, l, m, h => by
    rcases h.get i with ⟨e1,e2⟩|⟨x,y,e1,e2,hx⟩
    · rw [clos_none e1,clos_none e2];exact h
    · rw [clos_some e1,clos_some e2];exact clos_sim hR hn f (i+1) (grow_sim hR hx (hn x y hx) h size (Nat.le_refl _))
end
end Go.Wd

namespace Go.Wd
structure Dfa where
  size:Int
  next:List (List Int)
  fin:List Bool
  deriving Inhabited,DecidableEq
def Dfa.n (d:Dfa):Nat:=d.next.length
def Dfa.k (d:Dfa):Nat:=d.size.toNat
def Dfa.stp (d:Dfa) (q s:Nat):Nat:=((d.next.getD q default).getD s default).toNat
def Dfa.fn (d:Dfa) (q:Nat):Bool:=d.fin.getD q default
def okRow (n size:Int) (r:List Int):Prop:=(r.length:Int)=size∧∀ x∈r,0≤x∧x<n
instance (n size:Int) (r:List Int):Decidable (okRow n size r):=by unfold okRow;infer_instance
def okD (d:Dfa):Prop:=((1≤d.size∧d.size≤64)∧(1≤d.next.length∧d.next.length≤2048)∧d.fin.length=d.next.length)∧∀ r∈d.next,okRow d.next.length d.size r
instance (d:Dfa):Decidable (okD d):=by unfold okD;infer_instance
def validD (d:Dfa):Bool:=decide (okD d)
def Wrd (k:Nat) (w:List Nat):Prop:=∀ s∈w,s<k
def Dfa.run (d:Dfa) (q:Nat) (w:List Nat):Nat:=w.foldl d.stp q
def Dfa.acc (d:Dfa) (q:Nat) (w:List Nat):Bool:=d.fn (d.run q w)
def SameL (d e:Dfa) (q p:Nat):Prop:=∀ w,Wrd d.k w→d.acc q w=e.acc p w
theorem Wrd.cons {k s:Nat} {w:List Nat} (hs:s<k) (h:Wrd k w):Wrd k (s :: w):=fun t ht=>by
  rcases List.mem_cons.1 ht with rfl|ht
  · exact hs
  · exact h t ht
theorem Wrd.tail {k s:Nat} {w:List Nat} (h:Wrd k (s :: w)):s<k∧Wrd k w:=⟨h s List.mem_cons_self,fun t ht=>h t (List.mem_cons_of_mem _ ht)⟩
theorem okD.stp {d:Dfa} (h:okD d) {q s:Nat} (hq:q<d.n) (hs:s<d.k):d.stp q s<d.n:=by
  have hq':q<d.next.length:=hq
  have hr:=h.2 _ (List.getElem_mem hq')
  unfold Dfa.stp
  have e0:d.next.getD q default=d.next[q]:=by rw [List.getD_eq_getElem?_getD,List.getElem?_eq_getElem hq'];rfl
  rw [e0]
  have hs':s<(d.next[q]).length:=by
    have:=hr.1
    have hk:s<d.size.toNat:=hs
    omega
  rw [List.getD_eq_getElem?_getD,List.getElem?_eq_getElem hs']
  have:=hr.2 _ (List.getElem_mem hs')
  show (d.next[q][s]).toNat<d.next.length
  omega
theorem okD.run {d:Dfa} (h:okD d):∀ (w:List Nat) (q:Nat),q<d.n→Wrd d.k w→d.run q w<d.n
  | [],q,hq,_=>hq
  | s :: w,q,hq,hw=>h.run w (d.stp q s) (h.stp hq hw.tail.1) hw.tail.2
theorem SameL.step {d e:Dfa} {q p:Nat} (h:SameL d e q p) {s:Nat} (hs:s<d.k):SameL d e (d.stp q s) (e.stp p s):=fun w hw=>h (s :: w) (.cons hs hw)
theorem SameL.fn {d e:Dfa} {q p:Nat} (h:SameL d e q p):d.fn q=e.fn p:=h [] (fun s hs=>by cases hs)
theorem SameL.refl (d:Dfa) (q:Nat):SameL d d q q:=fun w hw=>rfl
theorem SameL.symm {d e:Dfa} {q p:Nat} (hk:d.k=e.k) (h:SameL d e q p):SameL e d p q:=fun w hw=>(h w (by rw [hk];exact hw)).symm
theorem SameL.trans {d e f:Dfa} {q p r:Nat} (hk:d.k=e.k) (h:SameL d e q p) (h2:SameL e f p r):SameL d f q r:=fun w hw=>(h w hw).trans (h2 w (by rw [← hk];exact hw))
section
variable {K:Type} [DecidableEq K] (next:K→Nat→K) (size:Nat) (final:K→Bool)
def mkD (L:List K):Dfa:=⟨size,L.map fun x=>(List.range size).map fun s=>(idx L (next x s):Int),L.map final⟩
variable {next size final}
theorem mk_stp {L:List K} {i s:Nat} {x:K} (hi:L[i]?=some x) (hs:s<size):(mkD next size final L).stp i s=idx L (next x s):=by
  unfold Dfa.stp
  have e0:(mkD next size final L).next.getD i default=(List.range size).map fun s=>(idx L (next x s):Int):=by
    show (L.map _).getD i default=_
    rw [List.getD_eq_getElem?_getD,List.getElem?_map,hi];rfl
  rw [e0]
  show (((List.range size).map fun s=>(idx L (next x s):Int)).getD s default).toNat=_
  rw [List.getD_eq_getElem?_getD,List.getElem?_map,List.getElem?_range hs]
  rfl
theorem mk_fn {L:List K} {i:Nat} {x:K} (hi:L[i]?=some x):(mkD next size final L).fn i=final x:=by
  unfold Dfa.fn mkD
  rw [List.getD_eq_getElem?_getD,List.getElem?_map,hi];rfl
theorem mk_acc {U L:List K} (hM:Met next size U L L.length):∀ (w:List Nat) (i:Nat) (x:K),L[i]?=some x→Wrd size w→(mkD next size final L).acc i w=final (w.foldl next x)
  | [],i,x,hi,_=>mk_fn hi
  | s :: w, i, x, hi, hw => by
    have h1:=hM.met i x (List.getElem?_eq_some_iff.1 hi).1 hi s hw.tail.1
    show (mkD next size final L).acc ((mkD next size final L).stp i s) w=_
    rw [mk_stp hi hw.tail.1]
    exact mk_acc hM w _ _ (idx_get h1) hw.tail.2
theorem mk_ok {U L:List K} (hM:Met next size U L L.length) (h0:1≤L.length) (hU:U.length≤2048) (hs:1≤size∧size≤64):okD (mkD next size final L):=by
  have hl:=nodup_len hM.nodup hM.sub
  refine ⟨⟨⟨by show (1:Int)≤(size:Int);omega,by show (size:Int)≤64;omega⟩,⟨by show 1≤(L.map _).length;rw [List.length_map];exact h0,by show (L.map _).length≤2048;rw [List.length_map];omega⟩,by show (L.map _).length=(L.map _).length;rw [List.length_map,List.length_map]⟩,fun r hr=>?_⟩
  obtain ⟨x,hx,rfl⟩:=List.mem_map.1 hr
  refine ⟨by rw [List.length_map,List.length_range];rfl,fun y hy=>?_⟩
  obtain ⟨s,hs2,rfl⟩:=List.mem_map.1 hy
  obtain ⟨i,hi,e⟩:=List.getElem_of_mem hx
  have h1:=hM.met i x hi (by rw [List.getElem?_eq_getElem hi,e]) s (List.mem_range.1 hs2)
  have h2:=idx_lt h1
  refine ⟨Int.natCast_nonneg _,?_⟩
  show ((idx L (next x s):Nat):Int)<((L.map _).length:Nat)
  rw [List.length_map];omega
end
section
variable {K K':Type} [DecidableEq K] [DecidableEq K'] {next:K→Nat→K} {next':K'→Nat→K'} {size:Nat} {final:K→Bool} {final':K'→Bool} {R:K→K'→Prop}
theorem mk_sim (hR:∀ x y x' y',R x x'→R y y'→(x=y↔x'=y')) (hn:∀ x y,R x y→∀ s,s<size→R (next x s) (next' y s)) (hf:∀ x y,R x y→final x=final' y) {L:List K} {M:List K'} (h:All2 R L M):mkD next size final L=mkD next' size final' M:=by
  have key:∀ {l:List K} {m:List K'},All2 R l m→(l.map fun x=>(List.range size).map fun s=>(idx L (next x s):Int))=(m.map fun x=>(List.range size).map fun s=>(idx M (next' x s):Int))∧l.map final=m.map final':=by
    intro l m hlm
    induction hlm with
    | nil=>exact ⟨rfl,rfl⟩
    | @cons x y l m h1 _ ih =>
      refine ⟨?_,by rw [List.map_cons,List.map_cons,ih.2,hf x y h1]⟩
      rw [List.map_cons,List.map_cons,ih.1]
      congr 1
      refine List.map_congr_left fun s hs=>?_
      rw [h.idx hR (hn x y h1 s (List.mem_range.1 hs))]
  unfold mkD
  rw [(key h).1,(key h).2]
end
section
variable {K:Type} [DecidableEq K] {next:K→Nat→K} {size:Nat}
theorem clos_more {U:List K} (hU:∀ x∈U,∀ s,s<size→next x s∈U):∀ (f g i:Nat) (l:List K),Met next size U l i→U.length<f+i→clos next size (f+g) i l=clos next size f i l
  | 0, g, i, l, h, hf => by
    have:=nodup_len h.nodup h.sub
    have:=h.le
    omega
  | f + 1, g, i, l, h, hf => by
    rw [show f+1+g=(f+g)+1 by omega]
    cases hx:l[i]? with
    | none=>rw [clos_none hx,clos_none hx]
    | some x =>
      rw [clos_some hx,clos_some hx]
      exact clos_more hU f g (i+1) _ (h.step hU hx) (by omega)
theorem reach_more {U:List K} {start:K} (hU:∀ x∈U,∀ s,s<size→next x s∈U) (h0:start∈U) {n:Nat} (hn:U.length≤n):reach next size n start=reach next size U.length start:=by
  unfold reach
  rw [show n+1=(U.length+1)+(n-U.length) by omega]
  exact clos_more hU _ _ 0 [start] ⟨by simp,Nat.zero_le _,fun x hx=>by rw [List.mem_singleton.1 hx];exact h0,fun j x hj=>absurd hj (Nat.not_lt_zero j)⟩ (by omega)
end
end Go.Wd

namespace Go.Wd
section
variable {σ τ:Type} [DecidableEq σ] [DecidableEq τ]
def firsts (l:List σ):List σ:=l.foldl addK []
theorem foldl_mem:∀ (l m:List σ) (x:σ),x∈l.foldl addK m↔x∈m∨x∈l
  | [],m,x=>by simp
  | y :: l, m, x => by
    rw [List.foldl_cons,foldl_mem l (addK m y) x,addK_mem,List.mem_cons]
    constructor
    · rintro ((h | h) | h)
      · exact .inl h
      · exact .inr (.inl h)
      · exact .inr (.inr h)
    · rintro (h | h | h)
      · exact .inl (.inl h)
      · exact .inl (.inr h)
      · exact .inr h
theorem firsts_mem {l:List σ} {x:σ}:x∈firsts l↔x∈l:=by
  unfold firsts;rw [foldl_mem];simp
theorem foldl_nodup:∀ (l m:List σ),m.Nodup→(l.foldl addK m).Nodup
  | [],m,h=>h
  | y :: l,m,h=>foldl_nodup l (addK m y) (addK_nodup h)
theorem firsts_nodup (l:List σ):(firsts l).Nodup:=foldl_nodup l [] (by simp)
theorem firsts_snoc (l:List σ) (x:σ):firsts (l++[x])=addK (firsts l) x:=by unfold firsts;rw [List.foldl_append];rfl
theorem firsts_map (g:σ→τ) (l:List σ):(firsts (l.map g)).length≤(firsts l).length:=by
  have h:=nodup_len (l:=firsts (l.map g)) (U:=(firsts l).map g) (firsts_nodup _) fun x hx=>by
    obtain ⟨y,hy,rfl⟩:=List.mem_map.1 (firsts_mem.1 hx)
    exact List.mem_map.2 ⟨y,firsts_mem.2 hy,rfl⟩
  rwa [List.length_map] at h
theorem firsts_inj {g:σ→τ} {l:List σ} (h:(firsts (l.map g)).length=(firsts l).length) {x y:σ} (hx:x∈l) (hy:y∈l) (e:g x=g y):x=y:=by
  refine Classical.byContradiction fun hne=>?_
  have h1:=nodup_len (l:=firsts (l.map g)) (U:=((firsts l).erase y).map g) (firsts_nodup _) fun z hz=>by
    obtain ⟨w,hw,rfl⟩:=List.mem_map.1 (firsts_mem.1 hz)
    by_cases q:w=y
    · rw [q, ← e]
      exact List.mem_map.2 ⟨x,(List.mem_erase_of_ne hne).2 (firsts_mem.2 hx),rfl⟩
    · exact List.mem_map.2 ⟨w,(List.mem_erase_of_ne q).2 (firsts_mem.2 hw),rfl⟩
  have h2:=List.length_erase_of_mem (firsts_mem.2 hy)
  have h3:=List.length_pos_of_mem (firsts_mem.2 hy)
  rw [List.length_map] at h1
  omega
def numL (l:List σ):List Nat:=l.map (idx (firsts l))
theorem idx_inj {l:List σ} {x y:σ} (hx:x∈l) (hy:y∈l) (h:idx l x=idx l y):x=y:=by
  have h1:=idx_get hx
  have h2:=idx_get hy
  rw [h,h2] at h1
  injection h1 with h1;exact h1.symm
theorem numL_count (l:List σ):(firsts (numL l)).length=(firsts l).length:=by
  refine Nat.le_antisymm (firsts_map _ l) ?_
  have h:=firsts_map (fun i:Nat=>(firsts l)[i]?) (numL l)
  have e:(numL l).map (fun i:Nat=>(firsts l)[i]?)=l.map some:=by
    unfold numL
    rw [List.map_map]
    exact List.map_congr_left fun x hx=>idx_get (firsts_mem.2 hx)
  rw [e] at h
  have h2:=firsts_map (fun o:Option σ=>o) (l.map some)
  have h3:(firsts l).length≤(firsts (l.map some)).length:=by
    have h4:=nodup_len (l:=(firsts l).map some) (U:=firsts (l.map some)) ((firsts_nodup l).map (f:=some) (fun _ _ hne e=>hne (Option.some.inj e))) fun x hx=>by
      obtain ⟨y,hy,rfl⟩:=List.mem_map.1 hx
      exact firsts_mem.2 (List.mem_map.2 ⟨y,firsts_mem.1 hy,rfl⟩)
    rwa [List.length_map] at h4
  omega
end
abbrev Sig:Type:=Nat×Bool×List Nat
def sig (d:Dfa) (cl:List Nat) (q:Nat):Sig:=(cl.getD q 0,d.fn q,(List.range d.k).map fun s=>cl.getD (d.stp q s) 0)
def sigs (d:Dfa) (cl:List Nat):List Sig:=(List.range d.n).map (sig d cl)
def clsStep (d:Dfa) (cl:List Nat):List Nat:=numL (sigs d cl)
def cnt (d:Dfa) (cl:List Nat):Nat:=(firsts (sigs d cl)).length
def clsIt (d:Dfa):Nat→Nat→List Nat→List Nat
  | 0,_,cl=>clsStep d cl
  | f+1,c,cl=>if cnt d cl=c then clsStep d cl else clsIt d f (cnt d cl) (clsStep d cl)
def clsF (d:Dfa):List Nat:=clsIt d (d.n+1) 0 (List.replicate d.n 0)
section
variable {d:Dfa}
theorem step_len (cl:List Nat):(clsStep d cl).length=d.n:=by unfold clsStep numL sigs;simp
theorem step_get (cl:List Nat) {q:Nat} (hq:q<d.n):(clsStep d cl).getD q 0=idx (firsts (sigs d cl)) (sig d cl q):=by
  unfold clsStep numL
  have e:(sigs d cl)[q]?=some (sig d cl q):=by unfold sigs;rw [List.getElem?_map,List.getElem?_range hq];rfl
  rw [List.getD_eq_getElem?_getD,List.getElem?_map,e];rfl
theorem sig_mem (cl:List Nat) {q:Nat} (hq:q<d.n):sig d cl q∈sigs d cl:=List.mem_map.2 ⟨q,List.mem_range.2 hq,rfl⟩
theorem step_eq (cl:List Nat) {q p:Nat} (hq:q<d.n) (hp:p<d.n):(clsStep d cl).getD q 0=(clsStep d cl).getD p 0↔sig d cl q=sig d cl p:=by
  rw [step_get cl hq,step_get cl hp]
  exact ⟨fun h=>idx_inj (firsts_mem.2 (sig_mem cl hq)) (firsts_mem.2 (sig_mem cl hp)) h,fun h=>by rw [h]⟩
theorem sigs_fst {cl:List Nat} (hl:cl.length=d.n):(sigs d cl).map (·.1)=cl:=by
  unfold sigs
  rw [List.map_map]
  refine List.ext_getElem (by simp [hl]) fun i h1 h2=>?_
  simp [sig,List.getD_eq_getElem?_getD,List.getElem?_eq_getElem h2]
structure Cls (d:Dfa) (c:Nat) (cl:List Nat):Prop where
  len:cl.length=d.n
  same:∀ q p,q<d.n→p<d.n→SameL d d q p→cl.getD q 0=cl.getD p 0
  num:c=0∨c=(firsts cl).length
theorem Cls.sig {c:Nat} {cl:List Nat} (h:Cls d c cl) (hd:okD d) {q p:Nat} (hq:q<d.n) (hp:p<d.n) (hs:SameL d d q p):Go.Wd.sig d cl q=Go.Wd.sig d cl p:=by
  unfold Go.Wd.sig
  rw [h.same q p hq hp hs,hs.fn]
  congr 2
  refine List.map_congr_left fun s hs2=>?_
  have hk:=List.mem_range.1 hs2
  exact h.same _ _ (hd.stp hq hk) (hd.stp hp hk) (hs.step hk)
theorem Cls.next {c:Nat} {cl:List Nat} (h:Cls d c cl) (hd:okD d):Cls d (cnt d cl) (clsStep d cl) :=
  ⟨step_len cl,fun q p hq hp hs=>(step_eq cl hq hp).2 (h.sig hd hq hp hs),.inr (numL_count (sigs d cl)).symm⟩
theorem Cls.le {c:Nat} {cl:List Nat} (h:Cls d c cl):c≤cnt d cl:=by
  rcases h.num with e|e
  · omega
  · have h1 := firsts_map (fun x : Sig => x.1) (sigs d cl)
    rw [sigs_fst h.len] at h1
    unfold cnt;omega
theorem cnt_pos (hd:okD d) (cl:List Nat):0<cnt d cl:=by
  have h1:=hd.1.2.1.1
  exact List.length_pos_of_mem (firsts_mem.2 (sig_mem cl (q:=0) h1))
theorem cnt_le (cl:List Nat):cnt d cl≤d.n:=by
  have h:=nodup_len (l:=firsts (sigs d cl)) (U:=sigs d cl) (firsts_nodup _) fun x hx=>firsts_mem.1 hx
  have e:(sigs d cl).length=d.n:=by unfold sigs;simp
  unfold cnt;omega
theorem cls_fix (hd : okD d) {cl : List Nat} (hl : cl.length = d.n) (h : cnt d cl = (firsts cl).length) {q p : Nat} (hq : q < d.n) (hp : p < d.n) (e : cl.getD q 0 = cl.getD p 0) : SameL d d q p := by
  have inj:∀ q p,q<d.n→p<d.n→cl.getD q 0=cl.getD p 0→sig d cl q=sig d cl p:=fun q p hq hp e=>by
    refine firsts_inj (g:=fun x:Sig=>x.1) (l:=sigs d cl) ?_ (sig_mem cl hq) (sig_mem cl hp) e
    rw [sigs_fst hl];exact h.symm
  have key:∀ (w:List Nat) (q p:Nat),q<d.n→p<d.n→cl.getD q 0=cl.getD p 0→Wrd d.k w→d.acc q w=d.acc p w:=by
    intro w
    induction w with
    | nil =>
      intro q p hq hp e _
      have h1:=congrArg (fun x:Sig=>x.2.1) (inj q p hq hp e)
      exact h1
    | cons s w ih =>
      intro q p hq hp e hw
      have hk:=hw.tail.1
      have h1:=congrArg (fun x:Sig=>x.2.2.getD s 0) (inj q p hq hp e)
      have g:∀ q,(sig d cl q).2.2.getD s 0=cl.getD (d.stp q s) 0:=fun q=>by
        show ((List.range d.k).map fun s=>cl.getD (d.stp q s) 0).getD s 0=_
        rw [List.getD_eq_getElem?_getD,List.getElem?_map,List.getElem?_range hk];rfl
      have h2:cl.getD (d.stp q s) 0=cl.getD (d.stp p s) 0:=by rw [← g q,← g p];exact h1
      exact ih (d.stp q s) (d.stp p s) (hd.stp hq hk) (hd.stp hp hk) h2 hw.tail.2
  exact fun w hw=>key w q p hq hp e hw
theorem clsIt_ok (hd : okD d) : ∀ (f c : Nat) (cl : List Nat), Cls d c cl → d.n < f + c → (clsIt d f c cl).length = d.n ∧ ∀ q p, q < d.n → p < d.n → ((clsIt d f c cl).getD q 0 = (clsIt d f c cl).getD p 0 ↔ SameL d d q p)
  | 0, c, cl, h, hf => by
    have h1:=h.le
    have h2:=cnt_le (d:=d) cl
    omega
  | f + 1, c, cl, h, hf => by
    rw [clsIt]
    have h1:=h.le
    have h0:=cnt_pos hd cl
    split
    · next hc =>
      refine ⟨step_len cl,fun q p hq hp=>?_⟩
      have hn:cnt d cl=(firsts cl).length:=by
        rcases h.num with e|e
        · omega
        · omega
      rw [step_eq cl hq hp]
      constructor
      · intro e
        exact cls_fix hd h.len hn hq hp (congrArg (fun x:Sig=>x.1) e)
      · exact h.sig hd hq hp
    · next hc=>exact clsIt_ok hd f (cnt d cl) (clsStep d cl) (h.next hd) (by omega)
theorem clsF_ok (hd:okD d):(clsF d).length=d.n∧∀ q p,q<d.n→p<d.n→((clsF d).getD q 0=(clsF d).getD p 0↔SameL d d q p) :=
  clsIt_ok hd _ 0 _ ⟨by simp,fun q p hq hp _=>by
    rw [List.getD_eq_getElem?_getD,List.getD_eq_getElem?_getD,List.getElem?_replicate,List.getElem?_replicate,if_pos hq,if_pos hp],.inl rfl⟩ (by omega)
end
def mnext (d:Dfa) (c s:Nat):Nat:=(clsF d).getD (d.stp (idx (clsF d) c) s) 0
def mfin (d:Dfa) (c:Nat):Bool:=d.fn (idx (clsF d) c)
def mstart (d:Dfa):Nat:=(clsF d).getD 0 0
def mlist (d:Dfa):List Nat:=reach (mnext d) d.k d.n (mstart d)
def minP (d:Dfa):Dfa:=mkD (mnext d) d.k (mfin d) (mlist d)
section
variable {d e:Dfa}
theorem cl_mem (hd:okD d) {q:Nat} (hq:q<d.n):(clsF d).getD q 0∈clsF d:=by
  have h:=(clsF_ok hd).1
  rw [List.getD_eq_getElem?_getD,List.getElem?_eq_getElem (by omega)]
  exact List.getElem_mem (by omega)
theorem cl_idx (hd:okD d) {c:Nat} (hc:c∈clsF d):idx (clsF d) c<d.n∧(clsF d).getD (idx (clsF d) c) 0=c:=by
  have h:=(clsF_ok hd).1
  have h1:=idx_lt hc
  exact ⟨by omega,by rw [List.getD_eq_getElem?_getD,idx_get hc];rfl⟩
theorem cl_same (hd:okD d) {q:Nat} (hq:q<d.n):SameL d d (idx (clsF d) ((clsF d).getD q 0)) q:=by
  obtain ⟨h1,h2⟩:=cl_idx hd (cl_mem hd hq)
  exact ((clsF_ok hd).2 _ _ h1 hq).1 h2
theorem mnext_cl (hd:okD d) {q s:Nat} (hq:q<d.n) (hs:s<d.k):mnext d ((clsF d).getD q 0) s=(clsF d).getD (d.stp q s) 0:=by
  obtain ⟨h1,h2⟩:=cl_idx hd (cl_mem hd hq)
  exact ((clsF_ok hd).2 _ _ (hd.stp h1 hs) (hd.stp hq hs)).2 ((cl_same hd hq).step hs)
theorem mfin_cl (hd:okD d) {q:Nat} (hq:q<d.n):mfin d ((clsF d).getD q 0)=d.fn q:=(cl_same hd hq).fn
theorem mnext_mem (hd:okD d):∀ x∈clsF d,∀ s,s<d.k→mnext d x s∈clsF d:=fun x hx s hs=>by
  obtain ⟨h1,h2⟩:=cl_idx hd hx
  exact cl_mem hd (hd.stp h1 hs)
theorem mlist_met (hd:okD d):Met (mnext d) d.k (clsF d) (mlist d) (mlist d).length∧[mstart d] <+: mlist d:=by
  have h:=reach_met (mnext_mem hd) (cl_mem hd (q:=0) hd.1.2.1.1)
  rw [(clsF_ok hd).1] at h;exact h
theorem mrun (hd:okD d):∀ (w:List Nat) (q:Nat),q<d.n→Wrd d.k w→w.foldl (mnext d) ((clsF d).getD q 0)=(clsF d).getD (d.run q w) 0
  | [],q,_,_=>rfl
  | s :: w, q, hq, hw => by
    show w.foldl (mnext d) (mnext d _ s)=_
    rw [mnext_cl hd hq hw.tail.1]
    exact mrun hd w _ (hd.stp hq hw.tail.1) hw.tail.2
theorem kk (hd:okD d):(d.k:Int)=d.size∧1≤d.k∧d.k≤64:=by
  have h:=hd.1.1
  unfold Dfa.k;omega
theorem minP_size (hd:okD d):(minP d).size=d.size∧(minP d).k=d.k:=by
  have h:=kk hd
  refine ⟨h.1,?_⟩
  show ((d.k:Int)).toNat=d.k
  omega
theorem minP_ok (hd:okD d):okD (minP d)∧(minP d).n≤d.n:=by
  obtain ⟨h1,h2⟩:=mlist_met hd
  have h3:=(clsF_ok hd).1
  have h4:=hd.1.2.1
  have h5:=kk hd
  have hl:=nodup_len h1.nodup h1.sub
  refine ⟨mk_ok h1 (by have:=h2.length_le;simpa using this) (by rw [h3];exact h4.2) h5.2,?_⟩
  show (List.map _ (mlist d)).length≤_
  rw [List.length_map];omega
theorem minP_lang (hd:okD d):SameL d (minP d) 0 0:=fun w hw=>by
  obtain ⟨h1,h2⟩:=mlist_met hd
  have h0:(mlist d)[0]?=some (mstart d):=by
    obtain ⟨r,e⟩:=h2
    rw [← e];rfl
  have h4:0<d.n:=hd.1.2.1.1
  have e:=mk_acc (final:=mfin d) h1 w 0 _ h0 hw
  show _=(mkD (mnext d) d.k (mfin d) (mlist d)).acc 0 w
  rw [e]
  unfold mstart
  rw [mrun hd w 0 h4 hw,mfin_cl hd (hd.run w 0 h4 hw)];rfl
theorem minP_canon (hd:okD d) (he:okD e) (hs:d.size=e.size) (h:SameL d e 0 0):minP d=minP e:=by
  have hk:d.k=e.k:=by unfold Dfa.k;rw [hs]
  let R:Nat→Nat→Prop:=fun x y=>∃ q p,q<d.n∧p<e.n∧(clsF d).getD q 0=x∧(clsF e).getD p 0=y∧SameL d e q p
  have hR:∀ x y x' y',R x x'→R y y'→(x=y↔x'=y'):=by
    rintro x y x' y' ⟨q,p,h1,h2,rfl,rfl,h3⟩ ⟨q',p',g1,g2,rfl,rfl,g3⟩
    rw [(clsF_ok hd).2 q q' h1 g1,(clsF_ok he).2 p p' h2 g2]
    constructor
    · exact fun hh=>((h3.symm hk).trans hk.symm hh).trans hk.symm g3
    · exact fun hh=>(h3.trans hk hh).trans hk (g3.symm hk)
  have hn:∀ x y,R x y→∀ s,s<d.k→R (mnext d x s) (mnext e y s):=by
    rintro x y ⟨q,p,h1,h2,rfl,rfl,h3⟩ s hs
    exact ⟨d.stp q s,e.stp p s,hd.stp h1 hs,he.stp h2 (by omega),(mnext_cl hd h1 hs).symm,(mnext_cl he h2 (by omega)).symm,h3.step hs⟩
  have hf:∀ x y,R x y→mfin d x=mfin e y:=by
    rintro x y ⟨q,p,h1,h2,rfl,rfl,h3⟩
    rw [mfin_cl hd h1,mfin_cl he h2];exact h3.fn
  have h0:R (mstart d) (mstart e):=⟨0,0,hd.1.2.1.1,he.1.2.1.1,rfl,rfl,h⟩
  have hL:All2 R (reach (mnext d) d.k (max d.n e.n) (mstart d)) (reach (mnext e) d.k (max d.n e.n) (mstart e)):=by
    have:=clos_sim (size:=d.k) hR hn (max d.n e.n+1) 0 (All2.cons h0 .nil)
    exact this
  have e1:mlist d=reach (mnext d) d.k (max d.n e.n) (mstart d):=by
    have h9:=reach_more (mnext_mem hd) (cl_mem hd (q:=0) hd.1.2.1.1) (n:=max d.n e.n) (by rw [(clsF_ok hd).1];exact Nat.le_max_left _ _)
    rw [(clsF_ok hd).1] at h9;exact h9.symm
  have e2:mlist e=reach (mnext e) d.k (max d.n e.n) (mstart e):=by
    have h9:=reach_more (mnext_mem he) (cl_mem he (q:=0) he.1.2.1.1) (n:=max d.n e.n) (by rw [(clsF_ok he).1];exact Nat.le_max_right _ _)
    rw [(clsF_ok he).1] at h9
    rw [hk];exact h9.symm
  unfold minP
  rw [← hk,e1,e2]
  exact mk_sim hR hn hf hL
end
end Go.Wd

namespace Go.Wd
open Go.Am
abbrev rowsA (l:List (List Int)):AV:=.sl (l.map ints)
abbrev boolsA (l:List Bool):AV:=.sl (l.map bool)
abbrev dcells (d:Dfa):List AV:=[int d.size,rowsA d.next,boolsA d.fin]
abbrev dfa (d:Dfa):AV:=.agg (dcells d)
abbrev dpc (d:Dfa):AV:=.pc (dcells d) 0
theorem same_ext {α:Type} {l m:List α} {z:α} (h:l.length=m.length) (hk:∀ i,i<l.length→l.getD i z=m.getD i z):l=m:=by
  refine List.ext_getElem h fun i h1 h2=>?_
  have:=hk i h1
  rwa [List.getD_eq_getElem?_getD,List.getElem?_eq_getElem h1,List.getD_eq_getElem?_getD,List.getElem?_eq_getElem h2] at this
theorem same_row {a b:Dfa} {i:Nat} (h:a.next.getD i default≠b.next.getD i default):decide (a=b)=false:=decide_eq_false fun e=>h (by rw [e])
theorem same_fin {a b:Dfa} {i:Nat} (h:a.fin.getD i default≠b.fin.getD i default):decide (a=b)=false:=decide_eq_false fun e=>h (by rw [e])
theorem same_all {a b:Dfa} (hs:a.size=b.size) (hn:a.next.length=b.next.length) (hf:a.fin.length=b.fin.length) (h1:∀ i,i<a.next.length→a.next.getD i default=b.next.getD i default) (h2:∀ i,i<a.fin.length→a.fin.getD i default=b.fin.getD i default):decide (a=b)=true:=by
  refine decide_eq_true ?_
  cases a;cases b
  simp only at hs hn hf h1 h2
  rw [hs,same_ext hn h1,same_ext hf h2]
theorem upto_step {P:Nat→Prop} {k:Nat} (h:∀ j,j<k→P j) (h2:P k):∀ j,j<k+1→P j:=fun j hj=>by
  by_cases e:j=k
  · rw [e];exact h2
  · exact h j (by omega)
end Go.Wd

namespace Go.Wc
open Go.Am
abbrev byte (c:UInt8):AV:=.sc (.int .u8 c.toNat)
abbrev resL:List UInt8:=[48,49,50,51,52,53,54,55,56,57,45,35,46,124,40,41,42,63,123,125,62,47,95,126,59,58,44,61,34,64]
def resB (c:UInt8):Bool:=resL.contains c||decide (c.toNat<33)
def plainT (s:List UInt8):Bool:=s.all (fun c=>!resB c)&&decide (1≤s.length)&&decide (s.length≤4)
def ok1P (a:List Letter) (x:Letter):Prop :=
  plainT x.text=true∧0≤x.base∧x.base<a.length∧(a.getD x.base.toNat default).base=x.base∧0≤x.mark∧x.mark≤15∧0≤x.cap∧x.cap≤1∧1≤x.width∧x.width≤1000
def ok2P (x:Letter) (i:Nat):Prop:=x.base=i→x.mark=0∧x.cap=0
def ok3P (a:List Letter) (i:Nat):Prop:=∀ k,k<i→(a.getD k default).text≠(a.getD i default).text
def okP (a:List Letter) (i:Nat):Prop:=ok1P a (a.getD i default)∧ok2P (a.getD i default) i∧ok3P a i
instance (a:List Letter) (x:Letter):Decidable (ok1P a x):=by unfold ok1P;infer_instance
instance (x:Letter) (i:Nat):Decidable (ok2P x i):=by unfold ok2P;infer_instance
instance (a:List Letter) (i:Nat):Decidable (ok3P a i):=by unfold ok3P;infer_instance
instance (a:List Letter) (i:Nat):Decidable (okP a i):=by unfold okP;infer_instance
def validP (a:List Letter):Prop:=(1≤a.length∧a.length≤60)∧∀ i,i<a.length→okP a i
instance (a:List Letter):Decidable (validP a):=by unfold validP;infer_instance
def validA (a:List Letter):Bool:=decide (validP a)
abbrev lcells (c:Cls) (x:Letter):List SV:=[.v c (sbytes x.text),.v c (int x.base),.v c (int x.mark),.v c (int x.cap),.v c (int x.width)]
end Go.Wc

namespace Go.Am
open Go.RowKit
section
variable {P:Program} {w0:Fr} {M0:Nat→Prop} {o:Oper} {ρ:Operand→Option SV} {ob:List (Nat×Ob)} {x y z:Operand} {T e:TypeId} {k id off:Nat} {c:Cls} {cs:List SV}
theorem pure_slice_hm {α:Type} {f:α→AV} {l:List α} {q':IntKind} {j:Int} (ho:o.op=.slice T x none (some z) none) (hT:P.underlying T=some (.slice e)) (hk:szOf P e=some k) (hx:viewAt ρ ob x=some (c,.sl (l.map f))) (hz:scal ρ z=some (.int q' j))
    (h:0≤j∧j≤l.length) (hxk:∀ z,(AV.cells (f z)).length=k):Pure P w0 M0 o ρ ob (.v c (.sl ((l.take j.toNat).map f))):=by
  have:=pure_slice_h (P:=P) (w0:=w0) (M0:=M0) ho hT hk hx hz (by simpa using h) (map_len hxk)
  rwa [← List.map_take] at this
theorem lookup_keeps (p:SV→Bool):∀ (X:List (Nat×SV)) (t:Nat) (d:SV),Nodup X=true→X.lookup t=some d→p d=true→(X.filter fun q=>p q.2).lookup t=some d
  | [],t,d,_,h,_=>by simp at h
  | (u, e) :: r, t, d, hn, h, hs => by
    rw [lookup_cons'] at h
    simp only [Nodup,Bool.and_eq_true,Bool.not_eq_true'] at hn
    rw [List.filter_cons]
    by_cases q:t=u
    · rw [if_pos q] at h
      simp only [Option.some.injEq] at h
      subst h
      rw [if_pos hs,lookup_cons',if_pos q]
    · rw [if_neg q] at h
      have ih:=lookup_keeps p r t d hn.2 h hs
      split
      · rw [lookup_cons',if_neg q];exact ih
      · exact ih
theorem all_stays {G:List (Nat×SV)} {t:Nat} (h:(G.all fun p=>p.2.stays true t||Nat.beq p.1 t)=true) {u:Nat} {d:SV} (hl:G.lookup u=some d) (hne:u≠t):d.stays true t=true:=by
  have:=List.all_eq_true.1 h _ (lookup_mem hl)
  rw [Bool.or_eq_true] at this
  rcases this with h1|h1
  · exact h1
  · exact absurd (Nat.eq_of_beq_eq_true h1) hne
end
end Go.Am

namespace Go.Am
open Go.RowKit
section
variable {P:Program} {w0:Fr} {M0:Nat→Prop}
def FnM3 (P : Program) (f : FuncId) (n t u : Nat) (T : TypeId) (k v : Nat) (c : Code) : Prop := ∃ fn, P.funcs[f]? = some fn ∧ fn.body = some c ∧ fn.ntmps = n ∧ fn.results = #[.tmp t, .cell u T, .tmp v] ∧ (fn.name == "runtime.NumGoroutine") = false ∧ isAggOf P T = some true ∧ szOf P T = some k
theorem FnM3.callable {f n t u v k:Nat} {T:TypeId} {c:Code} (h:FnM3 P f n t u T k v c):Callable P f:=by
  obtain ⟨fn,h1,h2,_,_,h5,_⟩:=h
  exact ⟨fn,h1,h5,by rw [h2];rfl⟩
def endM3 (t u k v:Nat) (r r' r'':AV) (o':List (Nat×Ob)):Exit→St→Prop
  | .normal,s|.ret,s=>(s.s.lookup t=some (.v .pl r)∧(s.s.lookup u).bind (boxV s.o k)=some (.v .pl r')∧s.s.lookup v=some (.v .pl r''))∧∀ id ob,o'.lookup id=some ob→s.o.lookup id=some ob
  | _,_=>False
end
end Go.Am

namespace Go.Am
open Go.RowKit
section
variable {P:Program} {w0:Fr} {M0:Nat→Prop} {ops:Array Oper} {Q:St→Prop}
def midOkS (ops : Array Oper) (n k a : Nat) : Bool := (List.range k).all fun i => match ops[i]? with
  | none=>false
  | some o => o.guard.isNone && (match o.dst with | some t => !(Nat.beq i a) && Nat.blt t n | none => Nat.beq i a) &&
    (List.range k).all fun j=>match (ops[j]?).bind (·.dst) with
      | some u=>!(looks ops o).contains u||(preds o).contains j
      | none=>true
theorem all_stays0 {G:List (Nat×SV)} {id:Nat} (h:(G.all fun p=>p.2.stays false id)=true) {u:Nat} {d:SV} (hl:G.lookup u=some d):d.stays false id=true:=List.all_eq_true.1 h _ (lookup_mem hl)
theorem step_storeD {o:Oper} {X:List (Nat×SV)} {o1 o2:List (Nat×Ob)} {T e:TypeId} {c:Cls} {a0:AV} {cs:List SV} {n u v k id off:Nat} (ho:o.op=.store T (.tmp u) (.tmp v)) (hd:o.dst=none) (hnd:Nodup X=true) (hk:szOf P T=some k) (hu:X.lookup u=some (.pbox id off)) (hl:o1.lookup id=some (.box e cs)) (hv:X.lookup v=some (.v c a0))
    (hnt:notTup a0=true) (hc:c≠.vw) (hn:(boxCells (.v c a0)).length=k) (hle:Nat.ble (off+k) cs.length=true) (hs:∀ t d,X.lookup t=some d→d.stays false id=true) (ho2:ins id (.box e (spl (keepC id cs) off (boxCells (.v c a0)))) (killO false id o1)=o2) (hM0:∀ b,M0 b→b<w0.w.heap.size) :
    ∃ s',Step P w0 M0 o ⟨n,X,o1⟩ s'∧Imp P w0 M0 s' ⟨n,X,o2⟩ :=
  ⟨_,step_store_box (s:=⟨n,X,o1⟩) ho hd hnd hk hu hl hv hnt hc hn hle hM0,imp_slots rfl ho2.symm fun t d h=>lookup_keeps (fun e=>e.stays false id) X t d hnd h (hs t d h)⟩
end
end Go.Am

