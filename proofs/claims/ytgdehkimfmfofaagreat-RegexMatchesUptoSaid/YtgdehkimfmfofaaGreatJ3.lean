/-
  A region whose order is drawn: pure operations in whatever order,and at most one other behind them all: one run in the text's order serves.
-/
import Derived.Test.YtgdehkimfmfofaaGreatJ2
set_option linter.unusedVariables false
set_option linter.unusedSectionVars false
set_option linter.unusedSimpArgs false
namespace Go.Am
open Go.RowKit

def looks (ops:Array Oper) (o:Oper):List Nat:=o.looksAt ops
def preds (o:Oper):List Nat:=(o.after.toList.filter (Region.binds .any ·)).map (·.on)
def ancs (ops : Array Oper) : Nat → Nat → List Nat
  | 0,_=>[]
  | n + 1, i => match ops[i]? with
    | some o=>preds o++(preds o).flatMap (ancs ops n)
    | none=>[]
def drawOk (ops : Array Oper) : Bool :=
  Region.noSelect ops&&(List.range ops.size).all fun i=>match ops[i]? with
    | none=>false
    | some o => (preds o).all (fun j => Nat.blt j i) &&
      (List.range ops.size).all fun j=>match ops[j]? with
        | none=>false
        | some p=>Nat.beq i j||((match o.dst,p.dst with|some t,some u=>!(Nat.beq t u)|_,_=>true) &&
            (match p.dst with|some u=>!(looks ops o).contains u||((preds o).contains j&&Nat.blt j i)||((preds p).contains i&&Nat.blt i j)|none=>true))
def tailOk (ops:Array Oper) (i:Nat):Bool:=(List.range ops.size).all fun q=>Nat.blt q i||(List.range q).all fun j=>(ancs ops ops.size q).contains j

def phaseOk (ops:Array Oper) (i:Nat):Bool:=(List.range ops.size).all fun q=>Nat.blt q i||(List.range i).all fun j=>(ancs ops ops.size q).contains j
theorem phase_of_tail {ops:Array Oper} {i:Nat} (h:tailOk ops i=true):phaseOk ops i=true:=by
  unfold tailOk at h;unfold phaseOk
  rw [List.all_eq_true] at h ⊢
  intro q hq
  have:=h q hq
  rw [Bool.or_eq_true] at this ⊢
  rcases this with h1|h1
  · exact .inl h1
  · by_cases hqi : q < i
    · exact .inl (by simpa using hqi)
    · refine .inr ?_
      rw [List.all_eq_true] at h1 ⊢
      exact fun j hj=>h1 j (List.mem_range.2 (by have:=List.mem_range.1 hj;omega))

def restr (ops:Array Oper) (o:Oper) (ρ:Operand→Option SV):Operand→Option SV
  | .tmp t=>if (looks ops o).contains t then ρ (.tmp t) else none
  | x=>ρ x

section
variable {P:Program} {w0:Fr} {M0:Nat→Prop}

def TailL (P:Program) (w0:Fr) (M0:Nat→Prop) (Q:St→Prop):List Oper→St→Prop
  | [],s=>Q s
  | o :: rest,s=>o.guard=none∧∃ s',Step P w0 M0 o s s'∧TailL P w0 M0 Q rest s'
theorem TailL.mono {Q Q':St→Prop} (h:∀ s,Q s→Q' s):∀ {l:List Oper} {s:St},TailL P w0 M0 Q l s→TailL P w0 M0 Q' l s
  | [],s,ht=>h s ht
  | o :: r,s,⟨h1,s',h2,h3⟩=>⟨h1,s',h2,TailL.mono h h3⟩
def EndL (P : Program) (w0 : Fr) (M0 : Nat → Prop) (ops : Array Oper) (Q : St → Prop) (m : Nat) (s : St) : Prop :=
  ∀ (fuel : Nat) (L : Array Bool) (a : Act) (w : World), L.size = ops.size → (∀ j, j < ops.size → (L.getD j false = true ↔ j < m)) → Sim P w0 M0 s a w → ops.size - m ≤ fuel →
    wpAny P .any ops (fun e a' w'=>e=.normal∧∃ s',Q s'∧Sim P w0 M0 s' a' w') fuel L a w
def DrawL (P : Program) (w0 : Fr) (M0 : Nat → Prop) (ops : Array Oper) (Q : St → Prop) : List Oper → Nat → St → Prop
  | [],_,s=>Q s
  | o :: rest, i, s =>
    (∃ t,o.dst=some t∧t<s.n∧∃ g,guardOf ops s.ev o=some g∧∃ d,(g=true→Pure P w0 M0 o (restr ops o s.ev) s.o d)∧(g=false→d=.v .pl (.tup []))∧DrawL P w0 M0 ops Q rest (i+1) (s.put t d)) ∨
    (tailOk ops i=true∧TailL P w0 M0 Q (o :: rest) s)∨(phaseOk ops i=true∧EndL P w0 M0 ops Q i s)

variable {ops:Array Oper} {Q:St→Prop}
structure Run (P:Program) (w0:Fr) (M0:Nat→Prop) (ops:Array Oper) (k i:Nat) (S:Nat→St) (T:Nat→Nat) (D:Nat→SV):Prop where
  next:∀ j,i≤j→j<k→S (j+1)=(S j).put (T j) (D j)
  op:∀ j,i≤j→j<k→∃ o,ops[j]?=some o∧o.dst=some (T j)∧T j<(S j).n∧∃ g,guardOf ops (S j).ev o=some g∧(g=true→Pure P w0 M0 o (restr ops o (S j).ev) (S j).o (D j))∧(g=false→D j=.v .pl (.tup []))
theorem run_of_drawL : ∀ (l : List Oper) (i : Nat) (s : St), (∀ j, l[j]? = ops[i + j]?) → DrawL P w0 M0 ops Q l i s →
    ∃ (k : Nat) (S : Nat → St) (T : Nat → Nat) (D : Nat → SV), i ≤ k ∧ S i = s ∧ Run P w0 M0 ops k i S T D ∧
      ((k=i+l.length∧Q (S k))∨(k<i+l.length∧((tailOk ops k=true∧TailL P w0 M0 Q (l.drop (k-i)) (S k))∨(phaseOk ops k=true∧EndL P w0 M0 ops Q k (S k)))))
  | [],i,s,_,h=>⟨i,fun _=>s,fun _=>0,fun _=>.dead,Nat.le_refl _,rfl,⟨fun j h1 h2=>by omega,fun j h1 h2=>by omega⟩,.inl ⟨by simp,h⟩⟩
  | o :: rest, i, s, hl, h => by
    have hoi:ops[i]?=some o:=by have:=hl 0;simpa using this.symm
    rcases h with ⟨t,ht,hn,g,hg,d,h1,h0,h⟩|⟨htl,hq⟩|⟨htl,hq⟩
    · obtain ⟨k, S, T, D, hik, hS, hR, hend⟩ := run_of_drawL rest (i + 1) (s.put t d) (fun j => by have := hl (j + 1); rw [List.getElem?_cons_succ] at this; rw [this]; congr 1; omega) h
      refine ⟨k,fun j=>if j=i then s else S j,fun j=>if j=i then t else T j,fun j=>if j=i then d else D j,by omega,by simp,⟨fun j h1 h2=>?_,fun j h1' h2=>?_⟩,?_⟩
      · by_cases hj : j = i
        · subst hj;simp [hS]
        · have e1 : j + 1 ≠ i := by omega
          simp only [hj,e1,if_false]
          exact hR.next j (by omega) h2
      · by_cases hj : j = i
        · subst hj
          simp only [if_true]
          exact ⟨o,hoi,ht,hn,g,hg,h1,h0⟩
        · simp only [hj, if_false]
          exact hR.op j (by omega) h2
      · have hki : k ≠ i := by omega
        simp only [hki,if_false]
        rcases hend with ⟨hk,hq⟩|⟨hk,hrest⟩
        · exact .inl ⟨by simp;omega,hq⟩
        · refine .inr ⟨by simp; omega, ?_⟩
          rcases hrest with hrest|hrest
          · refine .inl ⟨hrest.1, ?_⟩
            have e1:k-i=(k-(i+1))+1:=by omega
            rw [e1,List.drop_succ_cons];exact hrest.2
          · exact .inr hrest
    · exact ⟨i,fun _=>s,fun _=>0,fun _=>.dead,Nat.le_refl _,rfl,⟨fun j h1 h2=>by omega,fun j h1 h2=>by omega⟩,.inr ⟨by simp,.inl ⟨htl,by rw [Nat.sub_self];exact hq⟩⟩⟩
    · exact ⟨i,fun _=>s,fun _=>0,fun _=>.dead,Nat.le_refl _,rfl,⟨fun j h1 h2=>by omega,fun j h1 h2=>by omega⟩,.inr ⟨by simp,.inr ⟨htl,hq⟩⟩⟩

theorem drawOk_spec (h : drawOk ops = true) : Region.noSelect ops = true ∧ ∀ i o, ops[i]? = some o → (∀ j ∈ preds o, j < i) ∧
    ∀ j p, ops[j]? = some p → i ≠ j → (∀ t u, o.dst = some t → p.dst = some u → t ≠ u) ∧
      ∀ u,p.dst=some u→u∈looks ops o→(j∈preds o∧j<i)∨(i∈preds p∧i<j):=by
  unfold drawOk at h
  rw [Bool.and_eq_true,List.all_eq_true] at h
  refine ⟨h.1,fun i o ho=>?_⟩
  have hi:=h.2 i (List.mem_range.2 (Array.getElem?_eq_some_iff.1 ho).1)
  simp only [ho,Bool.and_eq_true,List.all_eq_true] at hi
  refine ⟨fun j hj=>by simpa using hi.1 j hj,fun j p hp hij=>?_⟩
  have hj:=hi.2 j (List.mem_range.2 (Array.getElem?_eq_some_iff.1 hp).1)
  simp only [hp,Bool.or_eq_true,Bool.and_eq_true] at hj
  rcases hj with hj|⟨h1,h2⟩
  · exact absurd (Nat.eq_of_beq_eq_true hj) hij
  · refine ⟨fun t u ht hu => ?_, fun u hu hl => ?_⟩
    · simp only [ht, hu, Bool.not_eq_true'] at h1
      intro he;subst he;simp at h1
    · simp only [hu, Bool.or_eq_true, Bool.and_eq_true, Bool.not_eq_true'] at h2
      rcases h2 with (h2|h2)|h2
      · have : (looks ops o).contains u = true := List.contains_iff_mem.2 hl
        rw [h2] at this;cases this
      · exact .inl ⟨List.contains_iff_mem.1 h2.1,by simpa using h2.2⟩
      · exact .inr ⟨List.contains_iff_mem.1 h2.1,by simpa using h2.2⟩

theorem filter_le (p q:Nat→Bool) (h:∀ x,q x=true→p x=true):∀ l:List Nat,(l.filter q).length≤(l.filter p).length
  | []=>by simp
  | x :: r => by
    have ih:=filter_le p q h r
    rw [List.filter_cons,List.filter_cons]
    cases hq:q x<;>cases hp:p x
    · simpa [hq,hp] using ih
    · simp only [Bool.false_eq_true,if_false,if_true,List.length_cons];omega
    · have:=h x hq;rw [hp] at this;cases this
    · simp only [if_true,List.length_cons];omega
theorem filter_lt (p q:Nat→Bool) (h:∀ x,q x=true→p x=true):∀ (l:List Nat) (i:Nat),i∈l→p i=true→q i=false→(l.filter q).length<(l.filter p).length
  | [],i,hi,_,_=>by cases hi
  | x :: r, i, hi, hp, hq => by
    rw [List.filter_cons,List.filter_cons]
    by_cases hx:i=x
    · subst hx
      have:=filter_le p q h r
      simp only [hp,hq,Bool.false_eq_true,if_false,if_true,List.length_cons];omega
    · have ih := filter_lt p q h r i (by rcases List.mem_cons.1 hi with h | h; exact absurd h hx; exact h) hp hq
      cases hq':q x<;>cases hp':p x
      · simpa [hq',hp'] using ih
      · simp only [Bool.false_eq_true,if_false,if_true,List.length_cons];omega
      · have:=h x hq';rw [hp'] at this;cases this
      · simp only [if_true,List.length_cons];omega
theorem mem_of_lookup {α:Type} {t:Nat} {d:α}:∀ (l:List (Nat×α)),l.lookup t=some d→(t,d)∈l
  | [],h=>by simp at h
  | (u, e) :: r, h => by
    rw [lookup_cons'] at h
    split at h
    · rename_i he
      subst he
      simp only [Option.some.injEq] at h
      subst h
      exact List.mem_cons_self
    · exact List.mem_cons_of_mem _ (mem_of_lookup r h)

def Closed (ops:Array Oper) (L:Array Bool):Prop:=∀ i o,ops[i]?=some o→L.getD i false=true→∀ j∈preds o,L.getD j false=true
theorem mem_preds {o:Oper} {j:Nat}:j∈preds o↔∃ e∈o.after,Region.binds .any e=true∧e.on=j:=by
  unfold preds
  simp only [List.mem_map,List.mem_filter,Array.mem_toList_iff]
  constructor
  · rintro ⟨e,⟨h1,h2⟩,h3⟩;exact ⟨e,h1,h2,h3⟩
  · rintro ⟨e,h1,h2,h3⟩;exact ⟨e,⟨h1,h2⟩,h3⟩
theorem ready_iff {L:Array Bool} {j:Nat}:j∈Region.ready .any ops L↔L.getD j true=false∧∃ o,ops[j]?=some o∧∀ i∈preds o,L.getD i false=true:=by
  rw [mem_ready]
  constructor
  · rintro ⟨h1, o, h2, h3⟩
    exact ⟨h1,o,h2,fun i hi=>by obtain ⟨e,he,hb,rfl⟩:=mem_preds.1 hi;exact h3 e he hb⟩
  · rintro ⟨h1, o, h2, h3⟩
    exact ⟨h1,o,h2,fun e he hb=>h3 e.on (mem_preds.2 ⟨e,he,hb,rfl⟩)⟩
theorem ancs_listed {L:Array Bool} (hc:Closed ops L):∀ (n i:Nat) (o:Oper),ops[i]?=some o→(∀ j∈preds o,L.getD j false=true)→(∀ i o,ops[i]?=some o→∀ j∈preds o,j<i)→∀ j∈ancs ops n i,L.getD j false=true
  | 0,i,o,_,_,_,j,hj=>by simp [ancs] at hj
  | n + 1, i, o, ho, hp, hlt, j, hj => by
    simp only [ancs,ho,List.mem_append,List.mem_flatMap] at hj
    rcases hj with hj|⟨x,hx,hj⟩
    · exact hp j hj
    · have hxi := hlt i o ho x hx
      have hos:x<ops.size:=by have:=(Array.getElem?_eq_some_iff.1 ho).1;omega
      have hox:ops[x]?=some ops[x]:=Array.getElem?_eq_getElem hos
      exact ancs_listed hc n x ops[x] hox (fun y hy=>hc x _ hox (hp x hx) y hy) hlt j hj
theorem getD_set {L:Array Bool} {i j:Nat} (hi:i<L.size):(L.setIfInBounds i true).getD j false=if j=i then true else L.getD j false:=by
  by_cases h:j=i
  · subst h;simp [hi]
  · rw [getD_set_ne false (Ne.symm h),if_neg h]

structure Mid (P:Program) (w0:Fr) (M0:Nat→Prop) (ops:Array Oper) (k:Nat) (S:Nat→St) (T:Nat→Nat) (D:Nat→SV) (L:Array Bool) (a:Act) (w:World) (E:Env):Prop where
  size:a.tmps.size=(S 0).n
  defers:Marks w0 a w
  wok:WOk P w0 M0 E (S 0).o w
  done:∀ j,j<k→L.getD j false=true→T j<(S 0).n∧SVok P M0 w E (S 0).o (a.tmps.getD (T j) undef) (D j)
  old:∀ t d,(S 0).s.lookup t=some d→(∀ j,j<k→L.getD j false=true→T j≠t)→t<(S 0).n∧SVok P M0 w E (S 0).o (a.tmps.getD t undef) d

variable {k:Nat} {S:Nat→St} {T:Nat→Nat} {D:Nat→SV}
theorem Run.same (hR:Run P w0 M0 ops k 0 S T D):∀ j,j≤k→(S j).n=(S 0).n∧(S j).o=(S 0).o
  | 0,_=>⟨rfl,rfl⟩
  | j + 1, h => by
    have ih:=hR.same j (by omega)
    rw [hR.next j (by omega) (by omega)]
    exact ih
theorem Run.look (hR : Run P w0 M0 ops k 0 S T D) (hd : ∀ i j, i < k → j < k → i ≠ j → T i ≠ T j) (t : Nat) : ∀ i, i ≤ k →
    (∃ j,j<i∧T j=t∧(S i).s.lookup t=some (D j))∨((∀ j,j<i→T j≠t)∧(S i).s.lookup t=(S 0).s.lookup t)
  | 0,_=>.inr ⟨fun j h=>by omega,rfl⟩
  | i + 1, h => by
    rw [hR.next i (by omega) (by omega)]
    simp only [St.put,lookup_ins]
    by_cases ht:t=T i
    · subst ht
      exact .inl ⟨i,by omega,rfl,by simp⟩
    · rw [if_neg ht]
      rcases hR.look hd t i (by omega) with ⟨j,h1,h2,h3⟩|⟨h1,h2⟩
      · exact .inl ⟨j,by omega,h2,h3⟩
      · refine .inr ⟨fun j hj => ?_, h2⟩
        by_cases hji:j=i
        · subst hji;exact fun he=>ht he.symm
        · exact h1 j (by omega)

set_option maxHeartbeats 2000000 in
theorem tail_any (hlt : ∀ i o, ops[i]? = some o → ∀ j ∈ preds o, j < i) {k : Nat} (htl : tailOk ops k = true) : ∀ (fuel m : Nat) (L : Array Bool) (a : Act) (w : World) (s : St), L.size = ops.size → (∀ j, j < ops.size → (L.getD j false = true ↔ j < m)) → k ≤ m → m ≤ ops.size →
    TailL P w0 M0 Q (ops.toList.drop m) s→Sim P w0 M0 s a w→ops.size-m≤fuel→wpAny P .any ops (fun e a' w'=>e=.normal∧∃ s',Q s'∧Sim P w0 M0 s' a' w') fuel L a w:=by
  intro fuel
  have hready:∀ (m:Nat) (L:Array Bool),L.size=ops.size→(∀ j,j<ops.size→(L.getD j false=true↔j<m))→k≤m→∀ j∈Region.ready .any ops L,j=m:=by
    intro m L hL hm hkm j hj
    obtain ⟨h1,o,ho,hp⟩:=ready_iff.1 hj
    have hjs:=(Array.getElem?_eq_some_iff.1 ho).1
    have hx:L[j]?=some L[j]:=Array.getElem?_eq_getElem (by omega)
    have hnf:¬ j<m:=fun h=>by
      have:=(hm j hjs).2 h
      rw [Array.getD_eq_getD_getElem?,hx] at h1 this
      simp only [Option.getD_some] at h1 this
      rw [h1] at this;cases this
    have hc:Closed ops L:=fun i o hi hLi q hq=>by
      have his:=(Array.getElem?_eq_some_iff.1 hi).1
      have:=hlt i o hi q hq
      exact (hm q (by omega)).2 (by have:=(hm i his).1 hLi;omega)
    rcases Nat.lt_or_ge m j with hmj|hmj
    · unfold tailOk at htl
      rw [List.all_eq_true] at htl
      have h2:=htl j (List.mem_range.2 hjs)
      rw [Bool.or_eq_true] at h2
      rcases h2 with h2|h2
      · have : j < k := by simpa using h2
        omega
      · rw [List.all_eq_true] at h2
        have h3:=ancs_listed hc ops.size j o ho hp hlt m (List.contains_iff_mem.1 (h2 m (List.mem_range.2 hmj)))
        have:=(hm m (by omega)).1 h3
        omega
    · omega
  have hnil:∀ (L:Array Bool),L.size=ops.size→(∀ j,j<ops.size→(L.getD j false=true↔j<ops.size))→k≤ops.size→Region.ready .any ops L=[]:=by
    intro L hL hm hk
    cases hr:Region.ready .any ops L with
    | nil=>rfl
    | cons j r =>
      have hj:j∈Region.ready .any ops L:=by rw [hr];exact List.mem_cons_self
      have he:=hready ops.size L hL hm hk j hj
      obtain ⟨_,o,ho,_⟩:=ready_iff.1 hj
      have:=(Array.getElem?_eq_some_iff.1 ho).1
      omega
  induction fuel with
  | zero =>
    intro m L a w s hL hm hk hms ht hs hf
    obtain rfl:m=ops.size:=by omega
    rw [List.drop_of_length_le (by simp)] at ht
    exact ⟨hnil L hL hm hk,rfl,s,ht,hs⟩
  | succ fuel ih =>
    intro m L a w s hL hm hk hms ht hs hf
    rcases Nat.lt_or_ge m ops.size with hlt'|hge
    · have hin : m ∈ Region.ready .any ops L := by
        refine ready_iff.2 ⟨?_,ops[m],Array.getElem?_eq_getElem hlt',fun q hq=>?_⟩
        · have hx : L[m]? = some L[m] := Array.getElem?_eq_getElem (by omega)
          cases hv:L[m] with
          | false=>rw [Array.getD_eq_getD_getElem?,hx,hv];rfl
          | true =>
            have:=(hm m hlt').1 (by rw [Array.getD_eq_getD_getElem?,hx,hv];rfl)
            omega
        · have := hlt m ops[m] (Array.getElem?_eq_getElem hlt') q hq
          exact (hm q (by omega)).2 this
      refine ⟨fun hr=>(by rw [hr] at hin;cases hin),fun i hi=>?_⟩
      obtain rfl:=hready m L hL hm hk i hi
      have hd:ops.toList.drop i=ops[i] :: ops.toList.drop (i+1):=by
        rw [List.drop_eq_getElem_cons (by simpa using hlt')];simp
      rw [hd] at ht
      obtain ⟨hgd,s',hst,hrest⟩:=ht
      have ho:ops[i]?=some ops[i]:=Array.getElem?_eq_getElem hlt'
      unfold wpOp
      simp only [ho,Region.wanted,hgd,if_true]
      refine .inl (Oper.wp_mono (fun a' w' h'=>?_) (hst a w _ hs))
      refine ih (i+1) _ a' w' s' (by simp [hL]) (fun j hj=>?_) (by omega) (by omega) hrest h' (by omega)
      rw [getD_set (by omega)]
      by_cases hji:j=i
      · rw [if_pos hji]; constructor
        · intro _;omega
        · intro _;rfl
      · rw [if_neg hji,hm j hj];omega
    · obtain rfl : m = ops.size := by omega
      rw [List.drop_of_length_le (by simp)] at ht
      have hn:=hnil L hL hm hk
      exact ⟨fun _=>⟨rfl,s,ht,hs⟩,fun i hi=>by rw [hn] at hi;cases hi⟩
set_option maxHeartbeats 1000000 in
theorem wp_region_drawL {id : Nat} {s : St} (hm : P.follows .mixedOrders = true) (hok : drawOk ops = true) (h : DrawL P w0 M0 ops Q ops.toList 0 s) {Q' : Exit → St → Prop} (hQ : ∀ s, Q s → Q' .normal s) :
    CodeOk P w0 M0 (.region id ops true) s Q':=by
  obtain ⟨k,S,T,D,_,hS,hR,hend⟩:=run_of_drawL ops.toList 0 s (fun j=>by simp) h
  obtain ⟨hns,hsp⟩:=drawOk_spec hok
  have hsel:∀ (j:Nat) (o:Oper) cs b,ops[j]?=some o→o.op≠.select cs b:=fun j o cs b ho=>Region.noSelect_spec hns j o cs b ho
  have hlt:∀ i o,ops[i]?=some o→∀ j∈preds o,j<i:=fun i o ho=>(hsp i o ho).1
  have hlen:ops.toList.length=ops.size:=by simp
  have hks:k≤ops.size:=by rcases hend with ⟨h1,_⟩|⟨h1,_⟩<;>omega
  have hT:∀ i j,i<k→j<k→i≠j→T i≠T j:=fun i j hi hj hij=>by
    obtain ⟨o,ho,hd,_⟩:=hR.op i (by omega) hi
    obtain ⟨p,hp,hd',_⟩:=hR.op j (by omega) hj
    exact ((hsp i o ho).2 j p hp hij).1 _ _ hd hd'
  -- the state as the text's order has it, once all pure ones are done
  have full:∀ (L:Array Bool) a w E,Mid P w0 M0 ops k S T D L a w E→(∀ j,j<k→L.getD j false=true)→SimE P w0 M0 E (S k) a w:=by
    intro L a w E hM hall
    have hsame:=hR.same k (Nat.le_refl _)
    refine ⟨by rw [hsame.1];exact hM.size,hM.defers,fun t d ht=>?_,by rw [hsame.2];exact hM.wok⟩
    rw [hsame.1,hsame.2]
    rcases hR.look hT t k (Nat.le_refl _) with ⟨j,h1,h2,h3⟩|⟨h1,h2⟩
    · rw [h3] at ht
      simp only [Option.some.injEq] at ht
      subst ht;subst h2
      exact hM.done j h1 (hall j h1)
    · rw [h2] at ht
      exact hM.old t d ht (fun j hj _=>h1 j hj)
  have main : ∀ (fuel : Nat) (L : Array Bool) (a : Act) (w : World) (E : Env), L.size = ops.size → Closed ops L → (∀ j, k ≤ j → L.getD j false = false) → Mid P w0 M0 ops k S T D L a w E →
      ((List.range ops.size).filter (fun j=>!L.getD j false)).length≤fuel →
      wpAny P .any ops (fun e a' w'=>e=.normal∧∃ s',Q s'∧Sim P w0 M0 s' a' w') fuel L a w:=by
    intro fuel
    -- if something is left, something is ready
    have ready_ne:∀ (L:Array Bool),L.size=ops.size→∀ j,j<ops.size→L.getD j false=false→Region.ready .any ops L≠[]:=by
      intro L hL j
      induction j using Nat.strongRecOn with
      | _ j ih =>
        intro hj hf
        by_cases hall:∀ i∈preds ops[j],L.getD i false=true
        · intro he
          have:j∈Region.ready .any ops L:=ready_iff.2 ⟨by
            have:L[j]?=some L[j]:=Array.getElem?_eq_getElem (by omega)
            simp [this] at hf ⊢;exact hf,ops[j],Array.getElem?_eq_getElem hj,hall⟩
          rw [he] at this;cases this
        · simp only [Classical.not_forall] at hall
          obtain ⟨i,hi,hif⟩:=hall
          have hij:=hlt j ops[j] (Array.getElem?_eq_getElem hj) i hi
          exact ih i hij (by omega) (by cases hh:L.getD i false<;>simp_all)
    induction fuel with
    | zero =>
      intro L a w E hL hc hk hM hfu
      have hall:∀ j,j<ops.size→L.getD j false=true:=by
        intro j hj
        cases hf:L.getD j false
        · have : j ∈ (List.range ops.size).filter (fun j => !L.getD j false) := List.mem_filter.2 ⟨List.mem_range.2 hj, by simp [hf]⟩
          have:=List.length_pos_of_mem this
          omega
        · rfl
      refine ⟨?_,rfl,?_⟩
      · cases hr : Region.ready .any ops L with
        | nil=>rfl
        | cons j r =>
          have:j∈Region.ready .any ops L:=by rw [hr];exact List.mem_cons_self
          obtain ⟨h1,o,ho,_⟩:=ready_iff.1 this
          have hjs:=(Array.getElem?_eq_some_iff.1 ho).1
          have:=hall j hjs
          have hx:L[j]?=some L[j]:=Array.getElem?_eq_getElem (by omega)
          simp [hx] at h1 this
          rw [h1] at this;cases this
      · rcases hend with ⟨h1, hq⟩ | ⟨h1, _⟩
        · exact ⟨S k,hq,E,full L a w E hM (fun j hj=>hall j (by omega))⟩
        · have := hall k (by omega)
          rw [hk k (Nat.le_refl _)] at this;cases this
    | succ fuel ih =>
      intro L a w E hL hc hk hM hfu
      refine ⟨fun hr=>?_,fun i hi=>?_⟩
      · have hall : ∀ j, j < ops.size → L.getD j false = true := by
          intro j hj
          cases hf:L.getD j false
          · exact absurd hr (ready_ne L hL j hj hf)
          · rfl
        rcases hend with ⟨h1,hq⟩|⟨h1,_⟩
        · exact ⟨rfl,S k,hq,E,full L a w E hM (fun j hj=>hall j (by omega))⟩
        · have := hall k (by omega)
          rw [hk k (Nat.le_refl _)] at this;cases this
      · obtain ⟨hni, o, ho, hpre⟩ := ready_iff.1 hi
        have his:=(Array.getElem?_eq_some_iff.1 ho).1
        have hLi:L.getD i false=false:=by
          have hx:L[i]?=some L[i]:=Array.getElem?_eq_getElem (by omega)
          simp [hx] at hni ⊢;exact hni
        by_cases hik:i<k
        · -- a pure one
          obtain ⟨o',ho',hdst,hTn,g,hg,hp1,hp0⟩:=hR.op i (by omega) hik
          obtain rfl:o'=o:=by rw [ho] at ho';exact (Option.some.inj ho').symm
          have hsame:=hR.same i (by omega)
          -- slots that it reads hold what the text's order has
          have hlook:∀ t d,t∈looks ops o'→(S i).s.lookup t=some d→t<(S 0).n∧SVok P M0 w E (S 0).o (a.tmps.getD t undef) d:=by
            intro t d ht hd
            rcases hR.look hT t i (by omega) with ⟨j,h1,h2,h3⟩|⟨h1,h2⟩
            · rw [h3] at hd
              simp only [Option.some.injEq] at hd
              subst hd;subst h2
              obtain ⟨p,hp,hpd,_⟩:=hR.op j (by omega) (by omega)
              rcases ((hsp i o' ho).2 j p hp (by omega)).2 _ hpd ht with ⟨hj,_⟩|⟨_,hj⟩
              · exact hM.done j (by omega) (hpre j hj)
              · omega
            · rw [h2] at hd
              refine hM.old t d hd fun j hj hLj he=>?_
              by_cases hji:j<i
              · exact h1 j hji he
              · have hne : i ≠ j := by rintro rfl; rw [hLi] at hLj; cases hLj
                obtain ⟨p,hp,hpd,_⟩:=hR.op j (by omega) hj
                rw [he] at hpd
                rcases ((hsp i o' ho).2 j p hp hne).2 _ hpd ht with ⟨_,hj'⟩|⟨hj',_⟩
                · omega
                · have := hc j p hp hLj i hj'
                  rw [hLi] at this;cases this
          have hgd:Region.wanted o' (yielded ops a.tmps)=g:=by
            -- the guard reads one slot
            have hE':SimE P w0 M0 E { n:=(S 0).n,s:=(S i).s.filter (fun p=>(looks ops o').contains p.1),o:=(S 0).o } a w:=by
              refine ⟨hM.size,hM.defers,fun t d ht=>?_,hM.wok⟩
              have h1:=lookup_filter (fun t=>(looks ops o').contains t) (S i).s t d ht
              have h2:t∈looks ops o':=by
                have:(t,d)∈(S i).s.filter (fun p=>(looks ops o').contains p.1):=mem_of_lookup _ ht
                have:=(List.mem_filter.1 this).2
                exact List.contains_iff_mem.1 this
              exact hlook t d h2 h1
            refine guard_ok hE' ?_
            rw [← hg]
            unfold guardOf
            cases hgu:o'.guard with
            | none=>rfl
            | some jw =>
              obtain ⟨j,want⟩:=jw
              simp only
              cases hjd:(ops[j]?).bind (·.dst) with
              | none=>rfl
              | some t =>
                have htl:t∈looks ops o':=by
                  simp [looks,Oper.looksAt,hgu,hjd]
                have:∀ (l:List (Nat×SV)),(l.filter (fun p=>(looks ops o').contains p.1)).lookup t=l.lookup t:=by
                  intro l
                  induction l with
                  | nil=>rfl
                  | cons p r ih =>
                    obtain ⟨x,y⟩:=p
                    rw [List.filter_cons]
                    split
                    · rw [lookup_cons',lookup_cons',ih]
                    · rename_i hx
                      rw [lookup_cons',ih,if_neg]
                      rintro rfl
                      exact hx (List.contains_iff_mem.2 htl)
                simp only [St.ev,this]
          have finish:∀ (v:Value) (w':World),BelowD w0.dr w.heap.size w w'→SVok P M0 w' E (S 0).o v (D i)→wpAny P .any ops (fun e a' w'=>e=.normal∧∃ s',Q s'∧Sim P w0 M0 s' a' w') fuel (L.setIfInBounds i true) (a.put o'.dst v) w':=by
            intro v w' hb hv
            have hgetne:∀ t,t≠T i→(a.put o'.dst v).tmps.getD t undef=a.tmps.getD t undef:=by
              intro t ht
              simp [hdst,Act.put,Array.getD_eq_getD_getElem?,Ne.symm ht]
            have hgeteq:(a.put o'.dst v).tmps.getD (T i) undef=v:=by
              have:=hM.size
              rw [hsame.1] at hTn
              simp [hdst,Act.put,Array.getD_eq_getD_getElem?,this,hTn]
            refine ih (L.setIfInBounds i true) _ w' E (by simp [hL]) (fun j p hp hLj x hx=>?_) (fun j hj=>?_) ⟨?_,?_,hM.wok.grow hb,fun j hj hLj=>?_,fun t d ht hno=>?_⟩ ?_
            · rw [getD_set (by omega)] at hLj ⊢
              by_cases hji:j=i
              · subst hji
                obtain rfl:p=o':=by rw [ho] at hp;exact (Option.some.inj hp).symm
                split
                · rfl
                · exact hpre x hx
              · rw [if_neg hji] at hLj
                split
                · rfl
                · exact hc j p hp hLj x hx
            · rw [getD_set (by omega),if_neg (by omega)];exact hk j hj
            · simp [hdst,Act.put];exact hM.size
            · exact (hM.defers.below hb).same (by rw [hdst];rfl) fun _ h=>h
            · rw [getD_set (by omega)] at hLj
              by_cases hji:j=i
              · subst hji
                rw [hgeteq]
                exact ⟨by rw [← hsame.1];exact hTn,hv⟩
              · rw [if_neg hji] at hLj
                have:=hM.done j hj hLj
                rw [hgetne _ (hT j i hj hik hji)]
                exact ⟨this.1,this.2.below hb⟩
            · have hti : T i ≠ t := hno i hik (by rw [getD_set (by omega), if_pos rfl])
              have:=hM.old t d ht (fun j hj hLj=>hno j hj (by rw [getD_set (by omega)];split<;>first|rfl|exact hLj))
              rw [hgetne t (Ne.symm hti)]
              exact ⟨this.1,this.2.below hb⟩
            · -- fewer are left
              have hlt':=filter_lt (fun j=>!L.getD j false) (fun j=>!(L.setIfInBounds i true).getD j false) (fun x hx=>by
                rw [getD_set (by omega)] at hx
                split at hx
                · cases hx
                · exact hx) (List.range ops.size) i (List.mem_range.2 his) (by rw [hLi];rfl) (by rw [getD_set (by omega),if_pos rfl];rfl)
              omega
          unfold wpOp
          simp only [ho,hgd]
          cases g with
          | false =>
            simp only [Bool.false_eq_true,if_false]
            refine finish undef w (.refl _ _) ?_
            rw [hp0 rfl]
            exact sv_undef
          | true =>
            simp only [if_true]
            refine .inl ?_
            have hy:=hp1 rfl E w a.eval (by rw [hsame.2];exact hM.wok) (fun x e hx=>by
              rw [hsame.2]
              cases x with
              | tmp t =>
                unfold restr at hx
                by_cases hc:(looks ops o').contains t=true
                · simp only [hc, if_true] at hx
                  exact (hlook t e (List.contains_iff_mem.1 hc) hx).2
                · simp only [hc] at hx;cases hx
              | const v =>
                simp only [restr,St.ev,Option.map_eq_some_iff] at hx
                obtain ⟨e',he',rfl⟩:=hx
                exact constAV_ok he'
              | func f =>
                simp only [restr,St.ev,Option.some.injEq] at hx
                subst hx
                exact .clo f [] [] rfl (fun j d hd=>by simp at hd)
              | global gl=>cases hx)
            rw [hsame.2] at hy
            unfold Yield at hy
            unfold Oper.wp
            generalize (execOp a.eval o').run P w=r at *
            match r,hy with
            | .ok (.value v) w', hy =>
              simp only [Oper.upon]
              exact finish v w' hy.1 hy.2
            | .ok (.enter f args) w', hy =>
              obtain ⟨rfl,hcl⟩:=hy
              simp only [Oper.upon]
              refine hcl.mono fun e w'' ⟨v,he,hb,hv⟩=>?_
              subst he
              exact finish v w'' hb hv
        · -- the first that writes
          rcases hend with ⟨h1,_⟩|⟨h1,hend⟩
          · omega
          · have ⟨htl, hq⟩ : phaseOk ops k = true ∧ EndL P w0 M0 ops Q k (S k) := by
              rcases hend with ⟨htl,hq⟩|h
              · exact ⟨phase_of_tail htl,fun f L a w hL hiff hs hf=>tail_any hlt htl f k L a w (S k) hL hiff (Nat.le_refl _) hks (by simpa using hq) hs hf⟩
              · exact h
            have hallk:∀ j,j<k→L.getD j false=true:=by
              intro j hj
              have htl':=htl
              unfold phaseOk at htl'
              rw [List.all_eq_true] at htl'
              have h2:=htl' i (List.mem_range.2 his)
              rw [Bool.or_eq_true] at h2
              rcases h2 with h2|h2
              · have : i < k := by simpa using h2
                omega
              · rw [List.all_eq_true] at h2
                exact ancs_listed hc ops.size i o ho hpre hlt j (List.contains_iff_mem.1 (h2 j (List.mem_range.2 (by omega))))
            have hSim:Sim P w0 M0 (S k) a w:=⟨E,full L a w E hM hallk⟩
            have hiff:∀ j,j<ops.size→(L.getD j false=true↔j<k):=fun j hj=>⟨fun h=>(by
              rcases Nat.lt_or_ge j k with h'|h'
              · exact h'
              · rw [hk j h'] at h;cases h),hallk j⟩
            have hleft:ops.size-k≤fuel+1:=by
              have h3:(List.range ops.size).filter (fun j=>!L.getD j false)=(List.range ops.size).filter (fun j=>decide (k≤j)):=by
                apply List.filter_congr
                intro j hj
                have hj':=List.mem_range.1 hj
                cases hv:L.getD j false
                · have : ¬ j < k := fun h => by rw [(hiff j hj').2 h] at hv; cases hv
                  simp;omega
                · have := (hiff j hj').1 hv
                  simp;omega
              rw [h3] at hfu
              have h4:∀ n,((List.range n).filter (fun j=>decide (k≤j))).length=n-k:=by
                intro n
                induction n with
                | zero=>simp
                | succ n ihn =>
                  rw [List.range_succ,List.filter_append,List.length_append,ihn]
                  by_cases hkn:k≤n
                  · simp [hkn];omega
                  · simp [hkn];omega
              rw [h4] at hfu
              omega
            have:=hq (fuel+1) L a w hL hiff hSim hleft
            exact this.2 i hi
  rintro a w ⟨E,hs⟩
  have h0:=main ops.size (Array.replicate ops.size false) a { w with drawn:=w.drawn+1 } E (by simp) (fun i o ho hL=>by
      have his:=(Array.getElem?_eq_some_iff.1 ho).1
      simp [his] at hL) (fun j hj=>by
      rcases Nat.lt_or_ge j ops.size with h|h<;>simp [h]) (by
      have hw:BelowD w0.dr w.heap.size w { w with drawn:=w.drawn+1 }:=(Below.refl _ _).drew
      have hs':=hs.grow hw
      rw [← hS] at hs'
      refine ⟨hs'.size,hs'.defers,hs'.wok,fun j hj hL=>?_,fun t d ht _=>hs'.slots t d ht⟩
      exfalso
      have:j<ops.size:=by omega
      simp [this] at hL) (by
      have:=List.length_filter_le (fun j=>!(Array.replicate ops.size false).getD j false) (List.range ops.size)
      simpa using this)
  refine wpF_mono (wpF_region_any hm calm_sim h0) fun e a' w' ⟨he,s',h1,h2⟩=>?_
  subst he
  exact ⟨s',hQ s' h1,h2⟩
end
end Go.Am

