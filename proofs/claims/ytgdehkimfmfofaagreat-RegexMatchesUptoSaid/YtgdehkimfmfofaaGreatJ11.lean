/-
  The greater of two numbers;arrays in boxes,read and written at an index.
-/
import Derived.Test.YtgdehkimfmfofaaGreatJ10
set_option linter.unusedVariables false
set_option linter.unusedSectionVars false
set_option linter.unusedSimpArgs false
namespace Go.Am
open Go.RowKit
theorem lookup_filt {α:Type} (f:Nat→Bool) (t:Nat):∀ l:List (Nat×α),(l.filter fun p=>f p.1).lookup t=if f t then l.lookup t else none
  | []=>by simp
  | (u, d) :: r => by
    rw [List.filter_cons]
    by_cases hu:f u=true
    · rw [if_pos hu, lookup_cons', lookup_cons', lookup_filt f t r]
      by_cases h:t=u
      · subst h;simp [hu]
      · simp [h]
    · rw [if_neg hu, lookup_filt f t r, lookup_cons']
      by_cases h:t=u
      · subst h;simp [hu]
      · simp [h]
theorem nodup_filter (f:Nat→Bool):∀ l:List (Nat×SV),Nodup l=true→Nodup (l.filter fun p=>f p.1)=true
  | [],_=>rfl
  | (t, d) :: r, h => by
    simp only [Nodup,Bool.and_eq_true,Bool.not_eq_true'] at h
    rw [List.filter_cons]
    split
    · simp only [Nodup, Bool.and_eq_true, Bool.not_eq_true']
      refine ⟨?_,nodup_filter f r h.2⟩
      rw [List.any_eq_false] at h ⊢
      exact fun x hx=>h.1 x (List.mem_filter.1 hx).1
    · exact nodup_filter f r h.2
theorem count_ge (k n:Nat):((List.range n).filter (fun j=>decide (k≤j))).length=n-k:=by
  induction n with
  | zero=>simp
  | succ n ihn =>
    rw [List.range_succ,List.filter_append,List.length_append,ihn]
    by_cases hkn:k≤n
    · simp [hkn];omega
    · simp [hkn];omega
section
variable {P:Program} {w0:Fr} {M0:Nat→Prop} {ops:Array Oper} {Q:St→Prop}
def keepL (ops:Array Oper) (k:Nat) (L:Array Bool) (t:Nat):Bool:=(List.range k).all fun j=>L.getD j false||(match (ops[j]?).bind (·.dst) with|some u=>!(Nat.beq u t)|none=>true)
theorem keepL_iff {k : Nat} {L : Array Bool} {t : Nat} : keepL ops k L t = true ↔ ∀ j, j < k → (ops[j]?).bind (·.dst) = some t → L.getD j false = true := by
  unfold keepL
  rw [List.all_eq_true]
  constructor
  · intro h j hj hd
    have:=h j (List.mem_range.2 hj)
    rw [hd] at this
    simpa using this
  · intro h j hj
    have hj:=List.mem_range.1 hj
    rw [Bool.or_eq_true]
    cases hd:(ops[j]?).bind (·.dst) with
    | none=>exact .inr rfl
    | some u =>
      by_cases hu:u=t
      · subst hu;exact .inl (h j hj hd)
      · refine .inr ?_
        simp only [Bool.not_eq_true']
        cases hb:Nat.beq u t with
        | false=>rfl
        | true=>exact absurd (Nat.eq_of_beq_eq_true hb) hu
def midOk (ops : Array Oper) (n k : Nat) : Bool := (List.range k).all fun i => match ops[i]? with
  | none=>false
  | some o => o.guard.isNone && (match o.dst with | some t => Nat.blt t n | none => false) &&
    (List.range k).all fun j=>match (ops[j]?).bind (·.dst) with
      | some u=>!(looks ops o).contains u||(preds o).contains j
      | none=>false
theorem Pure.mono {o:Oper} {ρ ρ':Operand→Option SV} {ob:List (Nat×Ob)} {d:SV} (h:Pure P w0 M0 o ρ ob d) (hρ:∀ x e,ρ x=some e→ρ' x=some e):Pure P w0 M0 o ρ' ob d :=
  fun E w ev hw hx=>h E w ev hw fun x e he=>hx x e (hρ x e he)
set_option maxHeartbeats 2000000 in
theorem code_draw1 {id : Nat} {n : Nat} {s0 : List (Nat × SV)} {o1 o2 : List (Nat × Ob)} (a k : Nat) (G : List (Nat × SV)) {Q' : Exit → St → Prop} (hm : P.follows .mixedOrders = true) (hok : drawOk ops = true) (htl : phaseOk ops k = true) (hmid : midOk ops n k = true) (hka : Nat.blt a k = true) (hks : Nat.ble k ops.size = true)
    (hG:∀ t d,(G.filter fun p=>keepL ops k #[] p.1).lookup t=some d→s0.lookup t=some d) (hnd:Nodup G=true)
    (hset:∀ i,i<k→∃ t d,(ops[i]?).bind (·.dst)=some t∧G.lookup t=some d)
    (h1:∀ i o t d,i<k→i≠a→ops[i]?=some o→o.dst=some t→G.lookup t=some d→(ancs ops ops.size i).contains a=false→Pure P w0 M0 o (restr ops o (St.ev ⟨n,G,o1⟩)) o1 d)
    (h2:∀ i o t d,i<k→i≠a→ops[i]?=some o→o.dst=some t→G.lookup t=some d→(ancs ops ops.size a).contains i=false→Pure P w0 M0 o (restr ops o (St.ev ⟨n,G,o2⟩)) o2 d)
    (hA:∀ o X,ops[a]?=some o→Nodup X=true→(∀ t d,X.lookup t=some d→G.lookup t=some d)→(∀ t,t∈looks ops o→X.lookup t=G.lookup t)→∃ t d s',o.dst=some t∧G.lookup t=some d∧Step P w0 M0 o ⟨n,X,o1⟩ s'∧Imp P w0 M0 s' ⟨n,ins t d X,o2⟩)
    (hend:EndL P w0 M0 ops (fun s=>∃ s',Imp P w0 M0 s s'∧Q' .normal s') k ⟨n,G,o2⟩):CodeOk P w0 M0 (.region id ops true) ⟨n,s0,o1⟩ Q':=by
  have hka:a<k:=by simpa using hka
  have hks:=Nat.le_of_ble_eq_true hks
  obtain ⟨hns,hsp⟩:=drawOk_spec hok
  have hlt:∀ i o,ops[i]?=some o→∀ j∈preds o,j<i:=fun i o ho=>(hsp i o ho).1
  have hmid':∀ i o,i<k→ops[i]?=some o→o.guard=none∧(∃ t,o.dst=some t∧t<n)∧∀ j u,j<k→(ops[j]?).bind (·.dst)=some u→u∈looks ops o→j∈preds o:=by
    intro i o hi ho
    unfold midOk at hmid
    rw [List.all_eq_true] at hmid
    have h:=hmid i (List.mem_range.2 hi)
    simp only [ho,Bool.and_eq_true,List.all_eq_true] at h
    refine ⟨by simpa using h.1.1,?_,fun j u hj hu hl=>?_⟩
    · cases hd : o.dst with
      | none=>rw [hd] at h;exact absurd h.1.2 (by simp)
      | some t=>rw [hd] at h;exact ⟨t,rfl,by simpa using h.1.2⟩
    · have := h.2 j (List.mem_range.2 hj)
      rw [hu] at this
      simp only [Bool.or_eq_true,Bool.not_eq_true'] at this
      rcases this with h'|h'
      · have : (looks ops o).contains u = true := List.contains_iff_mem.2 hl
        rw [h'] at this;cases this
      · exact List.contains_iff_mem.1 h'
  have uniq:∀ i j o p t,i<k→j<k→ops[i]?=some o→ops[j]?=some p→o.dst=some t→p.dst=some t→i=j:=by
    intro i j o p t hi hj ho hp hd hd'
    by_cases hij:i=j
    · exact hij
    · exact absurd rfl (((hsp i o ho).2 j p hp hij).1 t t hd hd')
  let oL:Array Bool→List (Nat×Ob):=fun L=>if L.getD a false then o2 else o1
  let sL:Array Bool→St:=fun L=>⟨n,G.filter (fun p=>keepL ops k L p.1),oL L⟩
  have main : ∀ (fuel : Nat) (L : Array Bool) (ac : Act) (w : World), L.size = ops.size → Closed ops L → (∀ j, k ≤ j → L.getD j false = false) → Sim P w0 M0 (sL L) ac w →
      ((List.range ops.size).filter (fun j=>!L.getD j false)).length≤fuel →
      wpAny P .any ops (fun e a' w'=>e=.normal∧∃ s',(∃ s'',Imp P w0 M0 s' s''∧Q' .normal s'')∧Sim P w0 M0 s' a' w') fuel L ac w:=by
    intro fuel
    have ready_ne:∀ (L:Array Bool),L.size=ops.size→∀ j,j<ops.size→L.getD j false=false→Region.ready .any ops L≠[]:=by
      intro L hL j
      induction j using Nat.strongRecOn with
      | _ j ih =>
        intro hj hf
        by_cases hall:∀ i∈preds ops[j],L.getD i false=true
        · intro he
          have:j∈Region.ready .any ops L:=ready_iff.2 ⟨by
            have:L[j]?=some L[j]:=Array.getElem?_eq_getElem (by omega)
            simp [this] at hf ⊢;exact hf,ops[j],Array.getElem?_eq_getElem hj,hall⟩
          rw [he] at this;cases this
        · simp only [Classical.not_forall] at hall
          obtain ⟨i,hi,hif⟩:=hall
          have hij:=hlt j ops[j] (Array.getElem?_eq_getElem hj) i hi
          exact ih i hij (by omega) (by cases hh:L.getD i false<;>simp_all)
    -- once all up to k are carried out
    have rest:∀ (f:Nat) (L:Array Bool) (ac:Act) (w:World),L.size=ops.size→(∀ j,k≤j→L.getD j false=false)→(∀ j,j<k→L.getD j false=true)→Sim P w0 M0 (sL L) ac w→((List.range ops.size).filter (fun j=>!L.getD j false)).length≤f →
        wpAny P .any ops (fun e a' w'=>e=.normal∧∃ s',(∃ s'',Imp P w0 M0 s' s''∧Q' .normal s'')∧Sim P w0 M0 s' a' w') f L ac w:=by
      intro f L ac w hL hk hall hs hf
      have hiff:∀ j,j<ops.size→(L.getD j false=true↔j<k):=fun j hj=>⟨fun h=>(by
        rcases Nat.lt_or_ge j k with h'|h'
        · exact h'
        · rw [hk j h'] at h;cases h),hall j⟩
      have h3:(List.range ops.size).filter (fun j=>!L.getD j false)=(List.range ops.size).filter (fun j=>decide (k≤j)):=by
        apply List.filter_congr
        intro j hj
        have hj':=List.mem_range.1 hj
        cases hv:L.getD j false
        · have : ¬ j < k := fun h => by rw [(hiff j hj').2 h] at hv; cases hv
          simp;omega
        · have := (hiff j hj').1 hv
          simp;omega
      rw [h3,count_ge] at hf
      have hs2:Sim P w0 M0 ⟨n,G,o2⟩ ac w:=by
        refine imp_slots (s:=sL L) (s':=⟨n,G,o2⟩) rfl (by show o2=oL L;simp only [oL];rw [if_pos (hall a hka)]) (fun t d ht=>?_) ac w hs
        show (G.filter (fun p=>keepL ops k L p.1)).lookup t=some d
        rw [lookup_filt,if_pos (keepL_iff.2 fun j hj _=>hall j hj)]
        exact ht
      exact hend f L ac w hL hiff hs2 hf
    induction fuel with
    | zero =>
      intro L ac w hL hc hk hs hfu
      have hall:∀ j,j<ops.size→L.getD j false=true:=by
        intro j hj
        cases hf:L.getD j false
        · have : j ∈ (List.range ops.size).filter (fun j => !L.getD j false) := List.mem_filter.2 ⟨List.mem_range.2 hj, by simp [hf]⟩
          have:=List.length_pos_of_mem this
          omega
        · rfl
      exact rest 0 L ac w hL hk (fun j hj=>hall j (by omega)) hs hfu
    | succ fuel ih =>
      intro L ac w hL hc hk hs hfu
      by_cases hallk:∀ j,j<k→L.getD j false=true
      · exact rest _ L ac w hL hk hallk hs hfu
      refine ⟨fun hr=>?_,fun i hi=>?_⟩
      · exfalso
        apply hallk
        intro j hj
        cases hf:L.getD j false
        · exact absurd hr (ready_ne L hL j (by omega) hf)
        · rfl
      · obtain ⟨hni, o, ho, hpre⟩ := ready_iff.1 hi
        have his:=(Array.getElem?_eq_some_iff.1 ho).1
        have hLi:L.getD i false=false:=by
          have hx:L[i]?=some L[i]:=Array.getElem?_eq_getElem (by omega)
          simp [hx] at hni ⊢;exact hni
        have hik:i<k:=by
          rcases Nat.lt_or_ge i k with h|h
          · exact h
          · exfalso
            apply hallk
            unfold phaseOk at htl
            rw [List.all_eq_true] at htl
            have h2:=htl i (List.mem_range.2 his)
            rw [Bool.or_eq_true] at h2
            rcases h2 with h2|h2
            · have : i < k := by simpa using h2
              omega
            · rw [List.all_eq_true] at h2
              exact fun j hj=>ancs_listed hc ops.size i o ho hpre hlt j (List.contains_iff_mem.1 (h2 j (List.mem_range.2 (by omega))))
        obtain ⟨hgd,⟨ti,hdst,hti⟩,hread⟩:=hmid' i o hik ho
        obtain ⟨t',di,ht',hGi⟩:=hset i hik
        have hb:(ops[i]?).bind (·.dst)=some ti:=by rw [ho];exact hdst
        rw [hb] at ht'
        simp only [Option.some.injEq] at ht'
        subst ht'
        have hlook:∀ t,t∈looks ops o→(sL L).s.lookup t=G.lookup t:=fun t ht=>by
          show (G.filter (fun p=>keepL ops k L p.1)).lookup t=_
          rw [lookup_filt,if_pos (keepL_iff.2 fun j hj hd=>hpre j (hread j t hj hd ht))]
        have hkeep:∀ t,t≠ti→keepL ops k (L.setIfInBounds i true) t=true→keepL ops k L t=true:=fun t hne h=>by
          rw [keepL_iff] at h ⊢
          intro j hj hd
          have:=h j hj hd
          rw [getD_set (by omega)] at this
          by_cases hji:j=i
          · subst hji;rw [hb] at hd;simp only [Option.some.injEq] at hd;exact absurd hd.symm hne
          · rwa [if_neg hji] at this
        have hself:keepL ops k L ti=false:=by
          cases hq:keepL ops k L ti with
          | false=>rfl
          | true=>have:=keepL_iff.1 hq i hik hb;rw [hLi] at this;cases this
        have hnone:(sL L).s.lookup ti=none:=by
          show (G.filter (fun p=>keepL ops k L p.1)).lookup ti=_
          rw [lookup_filt,hself];rfl
        have hstep:∃ s',Step P w0 M0 o (sL L) s'∧Imp P w0 M0 s' (sL (L.setIfInBounds i true)):=by
          have hfin:∀ ob,ob=oL (L.setIfInBounds i true)→Imp P w0 M0 ⟨n,ins ti di (sL L).s,ob⟩ (sL (L.setIfInBounds i true)):=fun ob hob=>by
            refine imp_slots rfl hob.symm (fun t d ht=>?_)
            have ht':(G.filter (fun p=>keepL ops k (L.setIfInBounds i true) p.1)).lookup t=some d:=ht
            rw [lookup_filt] at ht'
            split at ht'
            · rename_i hkp
              rw [lookup_ins]
              by_cases hne:t=ti
              · subst hne
                rw [if_pos rfl,← hGi,ht']
              · rw [if_neg hne]
                show (G.filter (fun p=>keepL ops k L p.1)).lookup t=_
                rw [lookup_filt,if_pos (hkeep t hne hkp)];exact ht'
            · cases ht'
          by_cases hia:i=a
          · subst hia
            have hXnd:Nodup (sL L).s=true:=nodup_filter _ _ hnd
            obtain ⟨t,d,s',g1,g2,g3,g4⟩:=hA o (sL L).s ho hXnd (fun t d ht=>by
              have ht':(G.filter (fun p=>keepL ops k L p.1)).lookup t=some d:=ht
              rw [lookup_filt] at ht'
              split at ht'
              · exact ht'
              · cases ht') hlook
            rw [hdst] at g1
            simp only [Option.some.injEq] at g1
            subst g1
            rw [hGi] at g2
            simp only [Option.some.injEq] at g2
            subst g2
            refine ⟨s',?_,g4.trans (hfin o2 ?_)⟩
            · have : sL L = ⟨n, (sL L).s, o1⟩ := by show (⟨_, _, oL L⟩ : St) = _; simp only [oL]; rw [hLi]; rfl
              rw [this];exact g3
            · simp only [oL];rw [getD_set (by omega),if_pos rfl];rfl
          · have hL' : (L.setIfInBounds i true).getD a false = L.getD a false := by rw [getD_set (by omega), if_neg (Ne.symm hia)]
            have hpure:Pure P w0 M0 o (restr ops o (St.ev ⟨n,G,oL L⟩)) (oL L) di:=by
              simp only [oL]
              by_cases hLa:L.getD a false=true
              · rw [if_pos hLa]
                refine h2 i o ti di hik hia ho hdst hGi ?_
                cases hq:(ancs ops ops.size a).contains i with
                | false=>rfl
                | true =>
                  have hao:ops[a]?=some ops[a]:=Array.getElem?_eq_getElem (by omega)
                  have:=ancs_listed hc ops.size a ops[a] hao (fun j hj=>hc a _ hao hLa j hj) hlt i (List.contains_iff_mem.1 hq)
                  rw [hLi] at this;cases this
              · rw [if_neg hLa]
                refine h1 i o ti di hik hia ho hdst hGi ?_
                cases hq:(ancs ops ops.size i).contains a with
                | false=>rfl
                | true=>exact absurd (ancs_listed hc ops.size i o ho hpre hlt a (List.contains_iff_mem.1 hq)) hLa
            have hpure':Pure P w0 M0 o (sL L).ev (sL L).o di:=hpure.mono fun x e hx=>by
              cases x with
              | tmp t =>
                by_cases hcn:(looks ops o).contains t=true
                · simp only [restr, hcn, if_true] at hx
                  show (sL L).s.lookup t=some e
                  rw [hlook t (List.contains_iff_mem.1 hcn)];exact hx
                · simp only [restr,hcn] at hx;cases hx
              | const v=>exact hx
              | func f=>exact hx
              | global g=>exact hx
            refine ⟨_,step_pure hdst hti hpure',hfin _ ?_⟩
            show oL L=_
            simp only [oL];rw [hL']
        obtain ⟨s',hst,himp⟩:=hstep
        unfold wpOp
        simp only [ho,Region.wanted,hgd,if_true]
        refine .inl (Oper.wp_mono (fun a' w' h'=>?_) (hst ac w _ hs))
        refine ih (L.setIfInBounds i true) a' w' (by simp [hL]) (fun j p hp hLj x hx=>?_) (fun j hj=>?_) (himp a' w' h') ?_
        · rw [getD_set (by omega)] at hLj ⊢
          by_cases hji:j=i
          · subst hji
            obtain rfl:p=o:=by rw [ho] at hp;exact (Option.some.inj hp).symm
            split
            · rfl
            · exact hpre x hx
          · rw [if_neg hji] at hLj
            split
            · rfl
            · exact hc j p hp hLj x hx
        · rw [getD_set (by omega),if_neg (by omega)];exact hk j hj
        · have hlt' := filter_lt (fun j => !L.getD j false) (fun j => !(L.setIfInBounds i true).getD j false) (fun x hx => by
            rw [getD_set (by omega)] at hx
            split at hx
            · cases hx
            · exact hx) (List.range ops.size) i (List.mem_range.2 his) (by rw [hLi];rfl) (by rw [getD_set (by omega),if_pos rfl];rfl)
          omega
  rintro ac w hs
  have hw:BelowD w0.dr w.heap.size w { w with drawn:=w.drawn+1 }:=(Below.refl _ _).drew
  have h0 := main ops.size (Array.replicate ops.size false) ac { w with drawn := w.drawn + 1 } (by simp) (fun i o ho hL => by
      have his:=(Array.getElem?_eq_some_iff.1 ho).1
      simp [his] at hL) (fun j hj=>by
      rcases Nat.lt_or_ge j ops.size with h|h<;>simp [h]) (by
      refine imp_slots (s:=⟨n,s0,o1⟩) (s':=sL (Array.replicate ops.size false)) rfl ?_ (fun t d ht=>hG t d ?_) ac _ (hs.grow hw)
      · show oL _ = o1
        simp only [oL]
        rw [if_neg]
        have:a<ops.size:=by omega
        simp [this]
      · have ht' : (G.filter (fun p => keepL ops k (Array.replicate ops.size false) p.1)).lookup t = some d := ht
        rw [lookup_filt] at ht' ⊢
        split at ht'
        · rename_i hkp
          rw [if_pos,ht']
          rw [keepL_iff] at hkp ⊢
          intro j hj hd
          have:=hkp j hj hd
          have hjs:j<ops.size:=by omega
          simp [hjs] at this
        · cases ht') (by
      have:=List.length_filter_le (fun j=>!(Array.replicate ops.size false).getD j false) (List.range ops.size)
      simpa using this)
  refine wpF_mono (wpF_region_any hm calm_sim h0) fun e a' w' ⟨he,s',⟨s2,hi,hq⟩,h2⟩=>?_
  subst he
  exact ⟨s2,hq,hi a' w' h2⟩

theorem imp_frzG {s:St} {l:List (Nat×SV)} {o':List (Nat×Ob)} (hM0:∀ b,M0 b→b<w0.w.heap.size)
    (hl:∀ t d,l.lookup t=some d→s.s.lookup t=some d∨(∃ q a,s.s.lookup t=some q∧frz s.o o' q=some a∧d=.v .pl a)∨(∃ i,d=.own i∧o'.lookup i=none∧t<s.n)) (ho':∀ id ob,o'.lookup id=some ob→s.o.lookup id=some ob):Imp P w0 M0 s ⟨s.n,l,o'⟩:=by
  rintro a w ⟨E,hs⟩
  have h2:SimE P w0 M0 E ⟨s.n,[],o'⟩ a w:=by
    have hown:∀ b,owned E o' b→owned E s.o b:=fun b ⟨id,ob,h1,h2⟩=>⟨id,ob,ho' id ob h1,h2⟩
    refine ⟨hs.size,hs.defers,fun t d ht=>by simp at ht,fun id ob hid=>?_,fun id ob id' ob' b h1 h2=>hs.wok.disj id ob id' ob' b (ho' _ _ h1) (ho' _ _ h2),hs.wok.below,hs.wok.pins⟩
    have:=hs.wok.objs id ob (ho' id ob hid)
    cases ob with
    | arr e xs =>
      obtain ⟨vals,h1,h2,h3⟩:=this
      exact ⟨vals,h1,h2,fun j d hd=>⟨(h3 j d hd).1,(h3 j d hd).2.weak (clsM_mono hown .pl)⟩⟩
    | box e cs =>
      obtain ⟨vals,h1,h2,h3,h4⟩:=this
      exact ⟨vals,h1,h2,h3,fun j sv hj=>⟨(h4 j sv hj).1,(h4 j sv hj).2.1,(h4 j sv hj).2.2.fewer ho'⟩⟩
    | mp ks vs =>
      obtain ⟨es,clock,h1,h2,h3,h4,h5⟩:=this
      exact ⟨es,clock,h1,h2,h3,h4,fun j d hd=>(h5 j d hd).weak (clsM_mono hown .pl)⟩
    | nar e cs ln =>
      obtain ⟨n,vals,h1,h2,h3,h4,h5⟩:=this
      exact ⟨n,vals,h1,h2,h3,h4.weak hown,h5⟩
    | nmp ks cs ln =>
      obtain ⟨es,clock,h1,h2,h3,h4,h5,h6,h7⟩:=this
      exact ⟨es,clock,h1,h2,h3,h4,h5,h6.weak hown,h7⟩
  refine ⟨E,h2.size,h2.defers,fun t d ht=>?_,h2.wok⟩
  rcases hl t d ht with h|⟨q,av,h3,h4,rfl⟩|⟨i,rfl,hi,htn⟩
  · have := hs.slots t d h
    exact ⟨this.1,this.2.fewer ho'⟩
  · have := hs.slots t q h3
    exact ⟨this.1,frz_ok hs.wok ho' hM0 this.2 h4⟩
  · refine ⟨htn, fun e xs hh => ?_⟩
    have hh':o'.lookup i=some (.arr e xs):=hh
    rw [hi] at hh';cases hh'
theorem lookup_safe (ids:List Nat):∀ (X:List (Nat×SV)) (t:Nat) (d:SV),Nodup X=true→X.lookup t=some d→d.safe ids=true→(X.filter fun p=>p.2.safe ids).lookup t=some d
  | [],t,d,_,h,_=>by simp at h
  | (u, e) :: r, t, d, hn, h, hs => by
    rw [lookup_cons'] at h
    have hn':=hn
    simp only [Nodup,Bool.and_eq_true,Bool.not_eq_true'] at hn
    rw [List.filter_cons]
    split at h
    · rename_i ht
      simp only [Option.some.injEq] at h
      subst h
      rw [if_pos hs,lookup_cons',if_pos ht]
    · rename_i ht
      have ih:=lookup_safe ids r t d hn.2 h hs
      split
      · rw [lookup_cons',if_neg ht];exact ih
      · exact ih
theorem lookup_map2 (g:Nat→Ob→Ob) (i:Nat):∀ l:List (Nat×Ob),(l.map fun p=>(p.1,g p.1 p.2)).lookup i=(l.lookup i).map (g i)
  | []=>by simp
  | (a, b) :: r => by
    rw [List.map_cons,lookup_cons',lookup_cons',lookup_map2 g i r]
    split
    · rename_i h;subst h;rfl
    · rfl
theorem step_eat {o : Oper} {X : List (Nat × SV)} {n t u id : Nat} {o1 o2 : List (Nat × Ob)} {f : FuncId} {e : TypeId} {xs ys : List AV} {ats : Array TypeId} (ho : o.op = .call { callee := .value (.func f), args := #[.tmp u], argTypes := ats }) (hd : o.dst = some t) (hn : Nat.blt t n = true) (hun : Nat.blt u n = true)
    (hX:X.lookup u=some (.own id)) (hnd:Nodup X=true) (hl:o1.lookup id=some (.arr e xs)) (h:CallO P f [.own 0] [(0,.arr e xs)] (.own 0) [(0,.arr e ys)]) (hsafe:∀ t' d,X.lookup t'=some d→t'≠u→d.safe [id]=true) (hid:o2.lookup id=none)
    (ho2:∀ i ob,o2.lookup i=some ob→∃ ob1,o1.lookup i=some ob1∧ob=ob1.after [id]) (hM0:∀ b,M0 b→b<w0.w.heap.size):∃ s',Step P w0 M0 o ⟨n,X,o1⟩ s'∧Imp P w0 M0 s' ⟨n,ins t (.v .pl (.sl ys)) X,o2⟩:=by
  have hrn:rn [(0,id)] 0=id:=rfl
  have hst:=step_callO (P:=P) (w0:=w0) (M0:=M0) (o:=o) (s:=⟨n,X,o1⟩) (dc:=.v .pl (.clo f [])) (f:=f) (caps:=[]) (svs:=[.own id]) [(0,id)] ho hd hn hnd rfl rfl (by show evs _ [Operand.tmp u]=_;simp only [evs,St.ev,hX]) h ⟨.inl rfl,trivial⟩ ⟨by show o1.lookup (rn [(0,id)] 0)=_;rw [hrn];exact hl,trivial⟩ rfl rfl rfl rfl rfl hM0
  refine ⟨_,hst,?_⟩
  have hlk:∀ i,((⟨n,X,o1⟩:St).after [(0,id)] [(0,.arr e ys)]).o.lookup i=(o1.lookup i).map fun ob=>if i=id then .arr e ys else ob.after [id]:=by
    intro i
    show (o1.map fun p=>(p.1,((newO [(0,id)] [(0,.arr e ys)]).lookup p.1).getD (p.2.after (idsO [(0,id)] [(0,Ob.arr e ys)])))).lookup i=_
    rw [lookup_map2 (fun a b=>((newO [(0,id)] [(0,.arr e ys)]).lookup a).getD (b.after (idsO [(0,id)] [(0,Ob.arr e ys)])))]
    congr 1
    funext b
    show ((List.lookup i [(id,(Ob.arr e ys).ren [(0,id)])]).getD (b.after [id]))=_
    rw [lookup_cons']
    by_cases h3:i=id
    · rw [if_pos h3,if_pos h3];rfl
    · rw [if_neg h3,if_neg h3];rfl
  refine imp_frzG hM0 (fun t' d ht'=>?_) (fun i ob hi=>?_)
  · rw [lookup_ins] at ht'
    show (ins t (SV.own id) _).lookup t'=some d∨_
    rw [lookup_ins]
    by_cases h1:t'=t
    · rw [if_pos h1] at ht' ⊢
      simp only [Option.some.injEq] at ht'
      subst ht'
      refine .inr (.inl ⟨.own id,.sl ys,?_,?_,rfl⟩)
      · show (ins t (SV.own id) _).lookup t' = _
        rw [lookup_ins,if_pos h1]
      · show frz ((⟨n, X, o1⟩ : St).after [(0, id)] [(0, .arr e ys)]).o o2 (.own id) = some (.sl ys)
        have h2:=hlk id
        rw [hl,Option.map_some,if_pos rfl] at h2
        simp only [frz,frz1,h2,hid]
    · rw [if_neg h1] at ht' ⊢
      by_cases h2:t'=u
      · subst h2
        rw [hX] at ht'
        simp only [Option.some.injEq] at ht'
        exact .inr (.inr ⟨id,ht'.symm,hid,by show t'<n;simpa using hun⟩)
      · exact .inl (lookup_safe _ X t' d hnd ht' (hsafe t' d ht' h2))
  · show ((⟨n, X, o1⟩ : St).after [(0, id)] [(0, .arr e ys)]).o.lookup i = some ob
    obtain ⟨ob1,h1,h2⟩:=ho2 i ob hi
    rw [hlk,h1,Option.map_some,if_neg (fun h3=>by rw [h3,hid] at hi;cases hi),h2]

def AV.nrm:AV→AV
  | .sc (.slice none 0 0)=>.sl []
  | d=>d
def AV.norm:AV→AV
  | .agg cs=>.agg (cs.map AV.nrm)
  | d=>d.nrm
theorem rep_nrm {w:World} {M:Nat→Prop} {v:Value} {d:AV} (h:Rep w M v d):Rep w M v d.nrm:=by
  unfold AV.nrm
  split
  · cases h
    exact .sl none 0 0 [] 0 (fun _=>undef) rfl (Nat.le_refl _) (by simp) (fun h=>absurd h (by omega)) (fun j d hd=>by simp [flat] at hd) (fun j d hd=>by simp [flat] at hd)
  · exact h
theorem nrm_leaf {d:AV} (h:d.leaf=true):d.nrm.leaf=true:=by
  unfold AV.nrm
  split
  · rfl
  · exact h
theorem rep_norm {w : World} {M : Nat → Prop} {v : Value} {d : AV} (h : Rep w M v d) : Rep w M v d.norm := by
  cases d with
  | agg cs =>
    cases h with
    | agg vs _ hn hl hr =>
      refine .agg vs _ (by simpa using hn) (fun j d hd=>?_) (fun j d hd=>?_)
      · rw [List.getElem?_map, Option.map_eq_some_iff] at hd
        obtain ⟨d0,h0,rfl⟩:=hd
        exact nrm_leaf (hl j d0 h0)
      · rw [List.getElem?_map, Option.map_eq_some_iff] at hd
        obtain ⟨d0,h0,rfl⟩:=hd
        exact rep_nrm (hr j d0 h0)
  | _=>exact rep_nrm h
theorem pure_norm {o:Oper} {ρ:Operand→Option SV} {ob:List (Nat×Ob)} {c:Cls} {d d':AV} (h:Pure P w0 M0 o ρ ob (.v c d)) (e:d.norm=d'):Pure P w0 M0 o ρ ob (.v c d'):=by
  subst e
  intro E w ev hw hx
  have:=h E w ev hw hx
  unfold Yield at this ⊢
  generalize (execOp ev o).run P w=r at *
  match r,this with
  | .ok (.value v) w',hy=>exact ⟨hy.1,rep_norm hy.2⟩
  | .ok (.enter f args) w',hy=>exact ⟨hy.1,hy.2.mono fun e w'' ⟨v,he,hb,hv⟩=>⟨v,he,hb,rep_norm hv⟩⟩
def HasA (o1:List (Nat×Ob)) (ids:List Nat):List (Nat×Ob)→Prop
  | []=>True
  | (a,ob) :: r=>(∃ ob1,o1.lookup a=some ob1∧ob=ob1.after ids)∧HasA o1 ids r
theorem HasA.out {o1:List (Nat×Ob)} {ids:List Nat}:∀ {o2:List (Nat×Ob)},HasA o1 ids o2→∀ i ob,o2.lookup i=some ob→∃ ob1,o1.lookup i=some ob1∧ob=ob1.after ids
  | [],_,i,ob,h=>by simp at h
  | (a, b) :: r, h, i, ob, hl => by
    rw [lookup_cons'] at hl
    split at hl
    · rename_i he;subst he;simp only [Option.some.injEq] at hl;subst hl;exact h.1
    · exact HasA.out h.2 i ob hl
theorem all_safe {G:List (Nat×SV)} {ids:List Nat} {u:Nat} (h:(G.all fun p=>p.2.safe ids||Nat.beq p.1 u)=true) {t:Nat} {d:SV} (hl:G.lookup t=some d) (hne:t≠u):d.safe ids=true:=by
  have:=List.all_eq_true.1 h _ (lookup_mem hl)
  rw [Bool.or_eq_true] at this
  rcases this with h1|h1
  · exact h1
  · exact absurd (Nat.eq_of_beq_eq_true h1) hne

def upTo (N m:Nat):List Bool:=(List.range N).map fun j=>Nat.blt j m
def Expl (P:Program) (w0:Fr) (M0:Nat→Prop) (ops:Array Oper) (Q:St→Prop):Nat→Array Bool→St→Prop
  | 0,L,s=>Region.ready .any ops L=[]∧Q s
  | n+1,L,s=>(Region.ready .any ops L=[]∧Q s)∨(Region.ready .any ops L≠[]∧∀ i∈Region.ready .any ops L,∃ o,ops[i]?=some o∧o.guard=none∧∃ s',Step P w0 M0 o s s'∧Expl P w0 M0 ops Q n (L.setIfInBounds i true) s')
theorem expl_ok : ∀ (n fuel : Nat) (L : Array Bool) (s : St) (a : Act) (w : World), Expl P w0 M0 ops Q n L s → n ≤ fuel → Sim P w0 M0 s a w → wpAny P .any ops (fun e a' w' => e = .normal ∧ ∃ s', Q s' ∧ Sim P w0 M0 s' a' w') fuel L a w
  | 0, fuel, L, s, a, w, ⟨h, hq⟩, hf, hs => by
    cases fuel with
    | zero=>exact ⟨h,rfl,s,hq,hs⟩
    | succ f=>exact ⟨fun _=>⟨rfl,s,hq,hs⟩,fun i hi=>by rw [h] at hi;cases hi⟩
  | n + 1, fuel, L, s, a, w, h, hf, hs => by
    cases fuel with
    | zero=>omega
    | succ f =>
      rcases h with ⟨h,hq⟩|⟨h,hall⟩
      · exact ⟨fun _=>⟨rfl,s,hq,hs⟩,fun i hi=>by rw [h] at hi;cases hi⟩
      · refine ⟨fun hr => absurd hr h, fun i hi => ?_⟩
        obtain ⟨o,ho,hg,s',hst,hx⟩:=hall i hi
        unfold wpOp
        simp only [ho,Region.wanted,hg,if_true]
        exact .inl (Oper.wp_mono (fun a' w' h'=>expl_ok n f _ s' a' w' hx (by omega) h') (hst a w _ hs))
theorem endL_of {m n : Nat} {s : St} (hn : Nat.ble n (ops.size - m) = true) (h : Expl P w0 M0 ops Q n (upTo ops.size m).toArray s) : EndL P w0 M0 ops Q m s := by
  intro f L a w hL hiff hs hf
  have:L=(upTo ops.size m).toArray:=by
    apply Array.ext
    · simp [upTo,hL]
    · intro j h1 h2
      have:=hiff j (by omega)
      simp only [upTo,List.getElem_toArray,List.getElem_map,List.getElem_range]
      rw [Array.getD_eq_getD_getElem?,Array.getElem?_eq_getElem h1,Option.getD_some] at this
      cases hb:L[j] with
      | true=>rw [hb] at this;have:=this.1 rfl;symm;simpa using this
      | false =>
        symm
        cases hc:Nat.blt j m with
        | false=>rfl
        | true => have h3 : j < m := by simpa using hc
                  rw [this.2 h3] at hb;cases hb
  subst this
  exact expl_ok n f _ s a w h (by have:=Nat.le_of_ble_eq_true hn;omega) hs
theorem ex_nil {n:Nat} {L:Array Bool} {s:St} (hr:Region.ready .any ops L=[]) (h:Q s):Expl P w0 M0 ops Q n L s:=by
  cases n with
  | zero=>exact ⟨hr,h⟩
  | succ n=>exact .inl ⟨hr,h⟩
theorem ex_one {n i:Nat} {L:Array Bool} {s s':St} {o:Oper} (hr:Region.ready .any ops L=[i]) (ho:ops[i]?=some o) (hg:o.guard=none) (hst:Step P w0 M0 o s s') (h:Expl P w0 M0 ops Q n (L.setIfInBounds i true) s'):Expl P w0 M0 ops Q (n+1) L s :=
  .inr ⟨by rw [hr];exact fun h=>(by cases h),fun i' hi=>by
    rw [hr,List.mem_singleton] at hi;subst hi;exact ⟨o,ho,hg,s',hst,h⟩⟩
theorem ex_two {n i j:Nat} {L:Array Bool} {s s' s'':St} {o p:Oper} (hr:Region.ready .any ops L=[i,j]) (ho:ops[i]?=some o) (hp:ops[j]?=some p) (hg:o.guard=none) (hg':p.guard=none) (hst:Step P w0 M0 o s s') (hst':Step P w0 M0 p s s'')
    (h:Expl P w0 M0 ops Q n (L.setIfInBounds i true) s') (h':Expl P w0 M0 ops Q n (L.setIfInBounds j true) s''):Expl P w0 M0 ops Q (n+1) L s :=
  .inr ⟨by rw [hr];exact fun h=>(by cases h),fun i' hi=>by
    rw [hr] at hi
    rcases List.mem_cons.1 hi with rfl|hi
    · exact ⟨o,ho,hg,s',hst,h⟩
    · rw [List.mem_singleton] at hi;subst hi;exact ⟨p,hp,hg',s'',hst',h'⟩⟩
theorem st_pure {o:Oper} {s:St} {t:Nat} {d:SV} (hd:o.dst=some t) (hn:Nat.blt t s.n=true) (h:Pure P w0 M0 o s.ev s.o d):Step P w0 M0 o s (s.put t d):=step_pure hd (by simpa using hn) h
theorem ex_end {n:Nat} {L:Array Bool} {s:St} (hr:Region.ready .any ops L=[]) (h:Q s):Expl P w0 M0 ops (fun s=>∃ s',Imp P w0 M0 s s'∧Q s') n L s:=ex_nil hr ⟨s,Imp.refl _,h⟩

theorem pure_fn {o : Oper} {ρ : Operand → Option SV} {ob : List (Nat × Ob)} {f : FuncId} {caps : Array Operand} {cs : List Cap} (ho : o.op = .makeFunc (.func f) #[] caps) (hc : capsO ρ caps.toList = some cs) : Pure P w0 M0 o ρ ob (.fn f cs) :=
  pure_value fun E w ev hw h=>by
    have key:∀ (l:List Operand) (cs:List Cap),capsO ρ l=some cs→l.length=cs.length∧∀ (j:Nat) c,cs[j]?=some c→CapOk M0 w E ob ((l.map ev).getD j undef) c:=by
      intro l
      induction l with
      | nil=>intro cs hcs;simp only [capsO,Option.some.injEq] at hcs;subst hcs;exact ⟨rfl,fun j c hj=>by simp at hj⟩
      | cons x r ih =>
        intro cs hcs
        unfold capsO at hcs
        split at hcs
        · rename_i id cs0 hx hr
          simp only [Option.some.injEq] at hcs
          subst hcs
          obtain ⟨g1,g2⟩:=ih cs0 hr
          refine ⟨by simp [g1],fun j c hj=>?_⟩
          cases j with
          | zero=>simp only [List.getElem?_cons_zero,Option.some.injEq] at hj;subst hj;exact h x _ hx
          | succ j=>exact g2 j c (by simpa using hj)
        · rename_i d cs0 hx hr
          simp only [Option.some.injEq] at hcs
          subst hcs
          obtain ⟨g1,g2⟩:=ih cs0 hr
          refine ⟨by simp [g1],fun j c hj=>?_⟩
          cases j with
          | zero=>simp only [List.getElem?_cons_zero,Option.some.injEq] at hj;subst hj;exact h x _ hx
          | succ j=>exact g2 j c (by simpa using hj)
        · cases hcs
    obtain ⟨g1,g2⟩:=key _ _ hc
    refine ⟨.func (.func f) #[] (caps.toList.map ev).toArray,w,?_,.refl _ _,(caps.toList.map ev),rfl,by simpa using g1,g2⟩
    simp [execOp,ho,Instr.makeFunc]
    try (apply Array.ext';simp)
end
end Go.Am

namespace Go.Am
open Go.RowKit
theorem pure_max {P:Program} {w0:Fr} {M0:Nat→Prop} {o:Oper} {ρ:Operand→Option SV} {ob:List (Nat×Ob)} {x y:Operand} {T T':TypeId} {a b:Int} (ho:o.op=.call { callee:=.builtin .max,args:=#[x,y],argTypes:=#[T,T'] }) (hx:scal ρ x=some (.int .i64 a)) (hy:scal ρ y=some (.int .i64 b)):Pure P w0 M0 o ρ ob (.v .pl (int (if a<b then b else a))) :=
  pure_scal rfl fun w ev h=>by
    simp [execOp,ho,resolve,h x _ hx,h y _ hy,invoke,builtin,go_sem]
    rw [Int.max_def];split<;>split<;>omega
end Go.Am

