/-
  Maps whose keys are arrays of scalars.
-/
import Derived.Test.YtjimlkpfmbachaaGreatJ11
import Derived.Lib.AppendStr
import Derived.Maps.Keyed
set_option linter.unusedVariables false
set_option linter.unusedSectionVars false
set_option linter.unusedSimpArgs false
namespace Go.Am
open Go.RowKit
section
variable {P:Program} {w0:Fr} {M0:Nat→Prop}
theorem pure_or {o:Oper} {ρ:Operand→Option SV} {ob:List (Nat×Ob)} {x y:Operand} {T T':TypeId} {k:IntKind} {a b:Int} (ho:o.op=.binOp .or T x y T') (hx:scal ρ x=some (.int k a)) (hy:scal ρ y=some (.int k b)):Pure P w0 M0 o ρ ob (.v .pl (.sc (.int k (k.wrap ((BitVec.ofInt k.bits a ||| BitVec.ofInt k.bits b).toNat:Nat))))) :=
  pure_bin ho hx hy rfl rfl (fun w=>by simp only [binOp_or,Op.intBits,Sem.run_pure])
variable {o:Oper} {s:St} {x y:Operand} {T U e:TypeId} {t id:Nat} {xs:List AV} {l:List UInt8}
end
end Go.Am

namespace Go.Am
open Go.RowKit
section
variable {P:Program} {w0:Fr} {M0:Nat→Prop} {ops:Array Oper} {Q:St→Prop}
def midOkG (ops : Array Oper) (n k : Nat) (eff : Nat → Bool) : Bool := (List.range k).all fun i => match ops[i]? with
  | none=>false
  | some o => o.guard.isNone && (match o.dst with | some t => Nat.blt t n | none => eff i) &&
    (List.range k).all fun j=>match (ops[j]?).bind (·.dst) with
      | some u=>!(looks ops o).contains u||(preds o).contains j
      | none=>true
set_option maxHeartbeats 2000000 in
theorem code_drawG {id : Nat} {n : Nat} {s0 : List (Nat × SV)} {o1 o2 : List (Nat × Ob)} (eff : Nat → Bool) (oL : Array Bool → List (Nat × Ob)) (k : Nat) (G : List (Nat × SV)) {Q' : Exit → St → Prop} (hm : P.follows .mixedOrders = true) (hok : drawOk ops = true) (htl : phaseOk ops k = true) (hmid : midOkG ops n k eff = true) (hks : Nat.ble k ops.size = true)
    (hG:∀ t d,(G.filter fun p=>keepL ops k #[] p.1).lookup t=some d→s0.lookup t=some d) (hnd:Nodup G=true)
    (hset:∀ i t,i<k→(ops[i]?).bind (·.dst)=some t→∃ d,G.lookup t=some d)
    (hO1:∀ L:Array Bool,(∀ j,L.getD j false=false)→oL L=o1) (hO2:∀ L:Array Bool,(∀ j,j<k→L.getD j false=true)→oL L=o2)
    (hP:∀ (L:Array Bool) i o t d,L.size=ops.size→Closed ops L→(∀ j,j∈ancs ops ops.size i→L.getD j false=true)→L.getD i false=false→i<k→eff i=false→ops[i]?=some o→o.dst=some t→G.lookup t=some d→Pure P w0 M0 o (restr ops o (St.ev ⟨n,G,oL L⟩)) (oL L) d∧oL (L.setIfInBounds i true)=oL L)
    (hE:∀ (L:Array Bool) i o X,L.size=ops.size→Closed ops L→(∀ j,j∈ancs ops ops.size i→L.getD j false=true)→L.getD i false=false→i<k→eff i=true→ops[i]?=some o→Nodup X=true→(∀ t d,X.lookup t=some d→G.lookup t=some d)→(∀ t,t∈looks ops o→X.lookup t=G.lookup t) →
      ∃ s',Step P w0 M0 o ⟨n,X,oL L⟩ s'∧Imp P w0 M0 s' ⟨n,(match o.dst with|some t=>(match G.lookup t with|some d=>ins t d X|none=>X)|none=>X),oL (L.setIfInBounds i true)⟩)
    (hend:EndL P w0 M0 ops (fun s=>∃ s',Imp P w0 M0 s s'∧Q' .normal s') k ⟨n,G,o2⟩):CodeOk P w0 M0 (.region id ops true) ⟨n,s0,o1⟩ Q':=by
  have hks:=Nat.le_of_ble_eq_true hks
  obtain ⟨hns,hsp⟩:=drawOk_spec hok
  have hlt:∀ i o,ops[i]?=some o→∀ j∈preds o,j<i:=fun i o ho=>(hsp i o ho).1
  have hmid':∀ i o,i<k→ops[i]?=some o→o.guard=none∧(∀ t,o.dst=some t→t<n)∧(eff i=false→∃ t,o.dst=some t)∧∀ j u,j<k→(ops[j]?).bind (·.dst)=some u→u∈looks ops o→j∈preds o:=by
    intro i o hi ho
    unfold midOkG at hmid
    rw [List.all_eq_true] at hmid
    have h:=hmid i (List.mem_range.2 hi)
    simp only [ho,Bool.and_eq_true,List.all_eq_true] at h
    refine ⟨by simpa using h.1.1,fun t ht=>?_,fun he=>?_,fun j u hj hu hl=>?_⟩
    · have h2 := h.1.2
      rw [ht] at h2
      simpa using h2
    · cases hd : o.dst with
      | none =>
        have h2:=h.1.2
        rw [hd] at h2
        have h3:eff i=true:=h2
        rw [he] at h3;cases h3
      | some t=>exact ⟨t,rfl⟩
    · have := h.2 j (List.mem_range.2 hj)
      rw [hu] at this
      simp only [Bool.or_eq_true,Bool.not_eq_true'] at this
      rcases this with h'|h'
      · have : (looks ops o).contains u = true := List.contains_iff_mem.2 hl
        rw [h'] at this;cases this
      · exact List.contains_iff_mem.1 h'
  let sL:Array Bool→St:=fun L=>⟨n,G.filter (fun p=>keepL ops k L p.1),oL L⟩
  have main : ∀ (fuel : Nat) (L : Array Bool) (ac : Act) (w : World), L.size = ops.size → Closed ops L → (∀ j, k ≤ j → L.getD j false = false) → Sim P w0 M0 (sL L) ac w →
      ((List.range ops.size).filter (fun j=>!L.getD j false)).length≤fuel →
      wpAny P .any ops (fun e a' w'=>e=.normal∧∃ s',(∃ s'',Imp P w0 M0 s' s''∧Q' .normal s'')∧Sim P w0 M0 s' a' w') fuel L ac w:=by
    intro fuel
    have ready_ne:∀ (L:Array Bool),L.size=ops.size→∀ j,j<ops.size→L.getD j false=false→Region.ready .any ops L≠[]:=by
      intro L hL j
      induction j using Nat.strongRecOn with
      | _ j ih =>
        intro hj hf
        by_cases hall:∀ i∈preds ops[j],L.getD i false=true
        · intro he
          have:j∈Region.ready .any ops L:=ready_iff.2 ⟨by
            have:L[j]?=some L[j]:=Array.getElem?_eq_getElem (by omega)
            simp [this] at hf ⊢;exact hf,ops[j],Array.getElem?_eq_getElem hj,hall⟩
          rw [he] at this;cases this
        · simp only [Classical.not_forall] at hall
          obtain ⟨i,hi,hif⟩:=hall
          have hij:=hlt j ops[j] (Array.getElem?_eq_getElem hj) i hi
          exact ih i hij (by omega) (by cases hh:L.getD i false<;>simp_all)
    -- once all up to k are carried out
    have rest:∀ (f:Nat) (L:Array Bool) (ac:Act) (w:World),L.size=ops.size→(∀ j,k≤j→L.getD j false=false)→(∀ j,j<k→L.getD j false=true)→Sim P w0 M0 (sL L) ac w→((List.range ops.size).filter (fun j=>!L.getD j false)).length≤f →
        wpAny P .any ops (fun e a' w'=>e=.normal∧∃ s',(∃ s'',Imp P w0 M0 s' s''∧Q' .normal s'')∧Sim P w0 M0 s' a' w') f L ac w:=by
      intro f L ac w hL hk hall hs hf
      have hiff:∀ j,j<ops.size→(L.getD j false=true↔j<k):=fun j hj=>⟨fun h=>(by
        rcases Nat.lt_or_ge j k with h'|h'
        · exact h'
        · rw [hk j h'] at h;cases h),hall j⟩
      have h3:(List.range ops.size).filter (fun j=>!L.getD j false)=(List.range ops.size).filter (fun j=>decide (k≤j)):=by
        apply List.filter_congr
        intro j hj
        have hj':=List.mem_range.1 hj
        cases hv:L.getD j false
        · have : ¬ j < k := fun h => by rw [(hiff j hj').2 h] at hv; cases hv
          simp;omega
        · have := (hiff j hj').1 hv
          simp;omega
      rw [h3,count_ge] at hf
      have hs2:Sim P w0 M0 ⟨n,G,o2⟩ ac w:=by
        refine imp_slots (s:=sL L) (s':=⟨n,G,o2⟩) rfl (by show o2=oL L;exact (hO2 L hall).symm) (fun t d ht=>?_) ac w hs
        show (G.filter (fun p=>keepL ops k L p.1)).lookup t=some d
        rw [lookup_filt,if_pos (keepL_iff.2 fun j hj _=>hall j hj)]
        exact ht
      exact hend f L ac w hL hiff hs2 hf
    induction fuel with
    | zero =>
      intro L ac w hL hc hk hs hfu
      have hall:∀ j,j<ops.size→L.getD j false=true:=by
        intro j hj
        cases hf:L.getD j false
        · have : j ∈ (List.range ops.size).filter (fun j => !L.getD j false) := List.mem_filter.2 ⟨List.mem_range.2 hj, by simp [hf]⟩
          have:=List.length_pos_of_mem this
          omega
        · rfl
      exact rest 0 L ac w hL hk (fun j hj=>hall j (by omega)) hs hfu
    | succ fuel ih =>
      intro L ac w hL hc hk hs hfu
      by_cases hallk:∀ j,j<k→L.getD j false=true
      · exact rest _ L ac w hL hk hallk hs hfu
      refine ⟨fun hr=>?_,fun i hi=>?_⟩
      · exfalso
        apply hallk
        intro j hj
        cases hf:L.getD j false
        · exact absurd hr (ready_ne L hL j (by omega) hf)
        · rfl
      · obtain ⟨hni, o, ho, hpre⟩ := ready_iff.1 hi
        have his:=(Array.getElem?_eq_some_iff.1 ho).1
        have hLi:L.getD i false=false:=by
          have hx:L[i]?=some L[i]:=Array.getElem?_eq_getElem (by omega)
          simp [hx] at hni ⊢;exact hni
        have hik:i<k:=by
          rcases Nat.lt_or_ge i k with h|h
          · exact h
          · exfalso
            apply hallk
            unfold phaseOk at htl
            rw [List.all_eq_true] at htl
            have h2:=htl i (List.mem_range.2 his)
            rw [Bool.or_eq_true] at h2
            rcases h2 with h2|h2
            · have : i < k := by simpa using h2
              omega
            · rw [List.all_eq_true] at h2
              exact fun j hj=>ancs_listed hc ops.size i o ho hpre hlt j (List.contains_iff_mem.1 (h2 j (List.mem_range.2 (by omega))))
        obtain ⟨hgd,hdn,hdp,hread⟩:=hmid' i o hik ho
        have hanc:∀ j,j∈ancs ops ops.size i→L.getD j false=true:=fun j hj=>ancs_listed hc ops.size i o ho hpre hlt j hj
        have hlook:∀ t,t∈looks ops o→(sL L).s.lookup t=G.lookup t:=fun t ht=>by
          show (G.filter (fun p=>keepL ops k L p.1)).lookup t=_
          rw [lookup_filt,if_pos (keepL_iff.2 fun j hj hd=>hpre j (hread j t hj hd ht))]
        have hstep:∃ s',Step P w0 M0 o (sL L) s'∧Imp P w0 M0 s' (sL (L.setIfInBounds i true)):=by
          have hXnd:Nodup (sL L).s=true:=nodup_filter _ _ hnd
          have hXG:∀ t d,(sL L).s.lookup t=some d→G.lookup t=some d:=fun t d ht=>by
            have ht':(G.filter (fun p=>keepL ops k L p.1)).lookup t=some d:=ht
            rw [lookup_filt] at ht'
            split at ht'
            · exact ht'
            · cases ht'
          have hfinS:∀ ti di,o.dst=some ti→G.lookup ti=some di→∀ ob,ob=oL (L.setIfInBounds i true)→Imp P w0 M0 ⟨n,ins ti di (sL L).s,ob⟩ (sL (L.setIfInBounds i true)):=fun ti di hdst hGi=>by
            have hb:(ops[i]?).bind (·.dst)=some ti:=by rw [ho];exact hdst
            have hkeep:∀ t,t≠ti→keepL ops k (L.setIfInBounds i true) t=true→keepL ops k L t=true:=fun t hne h=>by
              rw [keepL_iff] at h ⊢
              intro j hj hd
              have:=h j hj hd
              rw [getD_set (by omega)] at this
              by_cases hji:j=i
              · subst hji;rw [hb] at hd;simp only [Option.some.injEq] at hd;exact absurd hd.symm hne
              · rwa [if_neg hji] at this
            intro ob hob
            refine imp_slots rfl hob.symm (fun t d ht=>?_)
            have ht':(G.filter (fun p=>keepL ops k (L.setIfInBounds i true) p.1)).lookup t=some d:=ht
            rw [lookup_filt] at ht'
            split at ht'
            · rename_i hkp
              rw [lookup_ins]
              by_cases hne:t=ti
              · subst hne
                rw [if_pos rfl,← hGi,ht']
              · rw [if_neg hne]
                show (G.filter (fun p=>keepL ops k L p.1)).lookup t=_
                rw [lookup_filt,if_pos (hkeep t hne hkp)];exact ht'
            · cases ht'
          by_cases hef:eff i=true
          · obtain ⟨s', g3, g4⟩ := hE L i o (sL L).s hL hc hanc hLi hik hef ho hXnd hXG hlook
            refine ⟨s',g3,g4.trans ?_⟩
            cases hdst:o.dst with
            | none =>
              have hb:(ops[i]?).bind (·.dst)=none:=by rw [ho];exact hdst
              refine imp_slots rfl rfl (fun t d ht=>?_)
              have ht':(G.filter (fun p=>keepL ops k (L.setIfInBounds i true) p.1)).lookup t=some d:=ht
              show (G.filter (fun p=>keepL ops k L p.1)).lookup t=some d
              rw [lookup_filt] at ht' ⊢
              split at ht'
              · rename_i hkp
                rw [if_pos,ht']
                rw [keepL_iff] at hkp ⊢
                intro j hj hd
                have:=hkp j hj hd
                rw [getD_set (by omega)] at this
                by_cases hji:j=i
                · subst hji;rw [hb] at hd;cases hd
                · rwa [if_neg hji] at this
              · cases ht'
            | some ti =>
              obtain ⟨di,hGi⟩:=hset i ti hik (by rw [ho];exact hdst)
              simp only [hGi]
              exact hfinS ti di hdst hGi _ rfl
          · obtain ⟨ti, hdst⟩ := hdp (by simpa using hef)
            obtain ⟨di,hGi⟩:=hset i ti hik (by rw [ho];exact hdst)
            obtain ⟨hpure,hLL⟩:=hP L i o ti di hL hc hanc hLi hik (by simpa using hef) ho hdst hGi
            have hpure':Pure P w0 M0 o (sL L).ev (sL L).o di:=hpure.mono fun x e hx=>by
              cases x with
              | tmp t =>
                by_cases hcn:(looks ops o).contains t=true
                · simp only [restr, hcn, if_true] at hx
                  show (sL L).s.lookup t=some e
                  rw [hlook t (List.contains_iff_mem.1 hcn)];exact hx
                · simp only [restr,hcn] at hx;cases hx
              | const v=>exact hx
              | func f=>exact hx
              | global g=>exact hx
            exact ⟨_,step_pure hdst (hdn ti hdst) hpure',hfinS ti di hdst hGi _ hLL.symm⟩
        obtain ⟨s',hst,himp⟩:=hstep
        unfold wpOp
        simp only [ho,Region.wanted,hgd,if_true]
        refine .inl (Oper.wp_mono (fun a' w' h'=>?_) (hst ac w _ hs))
        refine ih (L.setIfInBounds i true) a' w' (by simp [hL]) (fun j p hp hLj x hx=>?_) (fun j hj=>?_) (himp a' w' h') ?_
        · rw [getD_set (by omega)] at hLj ⊢
          by_cases hji:j=i
          · subst hji
            obtain rfl:p=o:=by rw [ho] at hp;exact (Option.some.inj hp).symm
            split
            · rfl
            · exact hpre x hx
          · rw [if_neg hji] at hLj
            split
            · rfl
            · exact hc j p hp hLj x hx
        · rw [getD_set (by omega),if_neg (by omega)];exact hk j hj
        · have hlt' := filter_lt (fun j => !L.getD j false) (fun j => !(L.setIfInBounds i true).getD j false) (fun x hx => by
            rw [getD_set (by omega)] at hx
            split at hx
            · cases hx
            · exact hx) (List.range ops.size) i (List.mem_range.2 his) (by rw [hLi];rfl) (by rw [getD_set (by omega),if_pos rfl];rfl)
          omega
  rintro ac w hs
  have hw:BelowD w0.dr w.heap.size w { w with drawn:=w.drawn+1 }:=(Below.refl _ _).drew
  have h0 := main ops.size (Array.replicate ops.size false) ac { w with drawn := w.drawn + 1 } (by simp) (fun i o ho hL => by
      have his:=(Array.getElem?_eq_some_iff.1 ho).1
      simp [his] at hL) (fun j hj=>by
      rcases Nat.lt_or_ge j ops.size with h|h<;>simp [h]) (by
      refine imp_slots (s:=⟨n,s0,o1⟩) (s':=sL (Array.replicate ops.size false)) rfl ?_ (fun t d ht=>hG t d ?_) ac _ (hs.grow hw)
      · show oL _ = o1
        refine hO1 _ fun j=>?_
        rcases Nat.lt_or_ge j ops.size with h|h<;>simp [h]
      · have ht' : (G.filter (fun p => keepL ops k (Array.replicate ops.size false) p.1)).lookup t = some d := ht
        rw [lookup_filt] at ht' ⊢
        split at ht'
        · rename_i hkp
          rw [if_pos,ht']
          rw [keepL_iff] at hkp ⊢
          intro j hj hd
          have:=hkp j hj hd
          have hjs:j<ops.size:=by omega
          simp [hjs] at this
        · cases ht') (by
      have:=List.length_filter_le (fun j=>!(Array.replicate ops.size false).getD j false) (List.range ops.size)
      simpa using this)
  refine wp_mono (wp_region_any hm h0) fun e a' w' ⟨he,s',⟨s2,hi,hq⟩,h2⟩=>?_
  subst he
  exact ⟨s2,hq,hi a' w' h2⟩
end
end Go.Am

namespace Go.Am
open Go.RowKit
section
variable {P:Program} {w0:Fr} {M0:Nat→Prop} {ops:Array Oper} {Q:St→Prop}
def aftS (G X:List (Nat×SV)) (o:Oper):List (Nat×SV):=match o.dst with
  | some t=>(match G.lookup t with|some d=>ins t d X|none=>X)
  | none=>X
def effE (a b i:Nat):Bool:=Nat.beq i a||Nat.beq i b
theorem code_drawE {id : Nat} {n : Nat} {s0 : List (Nat × SV)} {o1 om o2 : List (Nat × Ob)} (a b k : Nat) (G : List (Nat × SV)) {Q' : Exit → St → Prop} (hm : P.follows .mixedOrders = true) (hok : drawOk ops = true) (htl : phaseOk ops k = true) (hmid : midOkG ops n k (effE a b) = true) (hks : Nat.ble k ops.size = true) (hbk : Nat.blt b k = true) (hab : (ancs ops ops.size b).contains a = true) (hne : Nat.beq a b = false)
    (hG:∀ t d,(G.filter fun p=>keepL ops k #[] p.1).lookup t=some d→s0.lookup t=some d) (hnd:Nodup G=true)
    (hset:∀ i t,i<k→(ops[i]?).bind (·.dst)=some t→∃ d,G.lookup t=some d)
    (h1:∀ i o t d,i<k→i≠a→i≠b→ops[i]?=some o→o.dst=some t→G.lookup t=some d→(ancs ops ops.size i).contains a=false→Pure P w0 M0 o (restr ops o (St.ev ⟨n,G,o1⟩)) o1 d)
    (h2:∀ i o t d,i<k→i≠a→i≠b→ops[i]?=some o→o.dst=some t→G.lookup t=some d→(ancs ops ops.size a).contains i=false→(ancs ops ops.size i).contains b=false→Pure P w0 M0 o (restr ops o (St.ev ⟨n,G,om⟩)) om d)
    (h3:∀ i o t d,i<k→i≠a→i≠b→ops[i]?=some o→o.dst=some t→G.lookup t=some d→(ancs ops ops.size b).contains i=false→Pure P w0 M0 o (restr ops o (St.ev ⟨n,G,o2⟩)) o2 d)
    (hA:∀ o X,ops[a]?=some o→Nodup X=true→(∀ t d,X.lookup t=some d→G.lookup t=some d)→(∀ t,t∈looks ops o→X.lookup t=G.lookup t)→∃ s',Step P w0 M0 o ⟨n,X,o1⟩ s'∧Imp P w0 M0 s' ⟨n,aftS G X o,om⟩)
    (hB:∀ o X,ops[b]?=some o→Nodup X=true→(∀ t d,X.lookup t=some d→G.lookup t=some d)→(∀ t,t∈looks ops o→X.lookup t=G.lookup t)→∃ s',Step P w0 M0 o ⟨n,X,om⟩ s'∧Imp P w0 M0 s' ⟨n,aftS G X o,o2⟩)
    (hend:EndL P w0 M0 ops (fun s=>∃ s',Imp P w0 M0 s s'∧Q' .normal s') k ⟨n,G,o2⟩):CodeOk P w0 M0 (.region id ops true) ⟨n,s0,o1⟩ Q':=by
  obtain ⟨hns,hsp⟩:=drawOk_spec hok
  have hlt:∀ i o,ops[i]?=some o→∀ j∈preds o,j<i:=fun i o ho=>(hsp i o ho).1
  have hks':=Nat.le_of_ble_eq_true hks
  have hbk':b<k:=by simpa using hbk
  have hne':a≠b:=fun e=>by rw [e,Nat.beq_refl] at hne;cases hne
  have hab':a∈ancs ops ops.size b:=List.contains_iff_mem.1 hab
  have ne_mem:∀ {i j:Nat},(¬ j∈ancs ops ops.size i)→(ancs ops ops.size i).contains j=false:=fun {i j} h=>by
    cases hq:(ancs ops ops.size i).contains j with
    | false=>rfl
    | true=>exact absurd (List.contains_iff_mem.1 hq) h
  have down:∀ {L:Array Bool} {i:Nat},Closed ops L→i<ops.size→L.getD i false=true→∀ j,j∈ancs ops ops.size i→L.getD j false=true:=fun {L i} hc hi hL j hj=>by
    have hio:ops[i]?=some ops[i]:=Array.getElem?_eq_getElem hi
    exact ancs_listed hc ops.size i ops[i] hio (fun q hq=>hc i _ hio hL q hq) hlt j hj
  let oL:Array Bool→List (Nat×Ob):=fun L=>if L.getD b false then o2 else if L.getD a false then om else o1
  refine code_drawG (eff:=effE a b) (oL:=oL) (o2:=o2) k G hm hok htl hmid hks hG hnd hset (fun L hL=>?_) (fun L hL=>?_) (fun L i o t d hL hc hanc hLi hik hef ho hd hGd=>?_) (fun L i o X hL hc hanc hLi hik hef ho hX hXG hXr=>?_) hend
  · simp only [oL]
    rw [if_neg (by rw [hL b];decide),if_neg (by rw [hL a];decide)]
  · simp only [oL]
    rw [if_pos (hL b hbk')]
  · have hia : i ≠ a := fun e => by rw [e] at hef; unfold effE at hef; rw [Nat.beq_refl] at hef; cases hef
    have hib:i≠b:=fun e=>by rw [e] at hef;unfold effE at hef;rw [Nat.beq_refl,Bool.or_true] at hef;cases hef
    have his:i<ops.size:=(Array.getElem?_eq_some_iff.1 ho).1
    have hLL:oL (L.setIfInBounds i true)=oL L:=by
      simp only [oL]
      rw [getD_set (by omega),if_neg (Ne.symm hib),getD_set (by omega),if_neg (Ne.symm hia)]
    refine ⟨?_,hLL⟩
    simp only [oL]
    by_cases hLb:L.getD b false=true
    · rw [if_pos hLb]
      refine h3 i o t d hik hia hib ho hd hGd (ne_mem fun hm=>?_)
      have:=down hc (by omega) hLb i hm
      rw [hLi] at this;cases this
    · rw [if_neg hLb]
      by_cases hLa:L.getD a false=true
      · rw [if_pos hLa]
        refine h2 i o t d hik hia hib ho hd hGd (ne_mem fun hm=>?_) (ne_mem fun hm=>hLb (hanc b hm))
        have hbs:b<ops.size:=by omega
        have has:a<ops.size:=by
          rcases Nat.lt_or_ge a ops.size with q|q
          · exact q
          · exfalso
            have:L.getD a false=false:=by simp [show ¬ a<L.size by omega]
            rw [hLa] at this;cases this
        have:=down hc has hLa i hm
        rw [hLi] at this;cases this
      · rw [if_neg hLa]
        exact h1 i o t d hik hia hib ho hd hGd (ne_mem fun hm=>hLa (hanc a hm))
  · have his : i < ops.size := (Array.getElem?_eq_some_iff.1 ho).1
    by_cases hib:i=b
    · subst hib
      have hLa:L.getD a false=true:=hanc a hab'
      have e1:oL L=om:=by simp only [oL];rw [if_neg (by rw [hLi];decide),if_pos hLa]
      have e2:oL (L.setIfInBounds i true)=o2:=by simp only [oL];rw [getD_set (by omega),if_pos rfl,if_pos rfl]
      rw [e1,e2]
      exact hB o X ho hX hXG hXr
    · have hia : i = a := by
        unfold effE at hef
        rw [Bool.or_eq_true] at hef
        rcases hef with h|h
        · exact Nat.eq_of_beq_eq_true h
        · exact absurd (Nat.eq_of_beq_eq_true h) hib
      subst hia
      have hLb:L.getD b false=false:=by
        cases hq:L.getD b false with
        | false=>rfl
        | true =>
          have:=down hc (by omega) hq i hab'
          rw [hLi] at this;cases this
      have e1:oL L=o1:=by simp only [oL];rw [if_neg (by rw [hLb];decide),if_neg (by rw [hLi];decide)]
      have e2:oL (L.setIfInBounds i true)=om:=by
        simp only [oL]
        rw [getD_set (by omega),if_neg (Ne.symm hib),if_neg (by rw [hLb];decide),getD_set (by omega),if_pos rfl,if_pos rfl]
      rw [e1,e2]
      exact hA o X ho hX hXG hXr
theorem step_allocD {o:Oper} {G X:List (Nat×SV)} {o1 o2:List (Nat×Ob)} {T:TypeId} {n t:Nat} {zs:List Value} (ho:o.op=.alloc T) (hd:o.dst=some t) (hn:Nat.blt t n=true) (hpt:Nat.blt t 1000000=true) (hnd:Nodup X=true) (hz:zeroOf P T=some zs) (hzs:zs.all Value.oneCell'=true)
    (hGt:G.lookup t=some (.pbox t 0)) (hs:∀ t' d,X.lookup t'=some d→t'≠t→d.stays true t=true) (ho2:ins t (.box T (zs.map fun z=>.v .pl (.sc z))) (killO true t o1)=o2) (hM0:∀ b,M0 b→b<w0.w.heap.size) :
    ∃ s',Step P w0 M0 o ⟨n,X,o1⟩ s'∧Imp P w0 M0 s' ⟨n,aftS G X o,o2⟩:=by
  refine ⟨_,step_alloc (s:=⟨n,X,o1⟩) ho hd hn hpt hnd hz hzs hM0,?_⟩
  have e:aftS G X o=ins t (.pbox t 0) X:=by unfold aftS;rw [hd];simp only [hGt]
  rw [e]
  refine imp_slots rfl ho2.symm fun t' d ht'=>?_
  rw [lookup_ins] at ht'
  show (ins t (SV.pbox t 0) _).lookup t'=some d
  rw [lookup_ins]
  by_cases q:t'=t
  · rw [if_pos q] at ht' ⊢;exact ht'
  · rw [if_neg q] at ht' ⊢
    exact lookup_keeps (fun e=>e.stays true t) X t' d hnd ht' (hs t' d ht' q)
theorem aftS_none {G X:List (Nat×SV)} {o:Oper} (h:o.dst=none):aftS G X o=X:=by unfold aftS;rw [h]
theorem step_storeE {o:Oper} {G X:List (Nat×SV)} {o1 o2:List (Nat×Ob)} {n:Nat} (hd:o.dst=none) (h:∃ s',Step P w0 M0 o ⟨n,X,o1⟩ s'∧Imp P w0 M0 s' ⟨n,X,o2⟩):∃ s',Step P w0 M0 o ⟨n,X,o1⟩ s'∧Imp P w0 M0 s' ⟨n,aftS G X o,o2⟩:=by
  rw [aftS_none hd];exact h
end
end Go.Am

namespace Go.Am
open Go.RowKit Go.MapKept Go.ChangeMaps

def scsOf : List AV → Option (List Value)
  | []=>some []
  | .sc v :: r => match scsOf r with
    | some l=>some (v :: l)
    | none=>none
  | _ :: _=>none
theorem scsOf_get : ∀ {cs : List AV} {l : List Value}, scsOf cs = some l → cs = l.map .sc
  | [],l,h=>by simp only [scsOf,Option.some.injEq] at h;subst h;rfl
  | c :: r, l, h => by
    unfold scsOf at h
    cases c with
    | sc v =>
      simp only [] at h
      cases hl:scsOf r with
      | none=>rw [hl] at h;cases h
      | some l' =>
        rw [hl] at h
        simp only [Option.some.injEq] at h
        subst h
        rw [List.map_cons,← scsOf_get hl]
    | _=>cases h
def SV.aval : SV → Option Value
  | .v _ (.agg cs) => match scsOf cs with
    | some l=>some (.agg l.toArray)
    | none=>none
  | _=>none
def ascal (ρ:Operand→Option SV) (x:Operand):Option Value:=(ρ x).bind SV.aval
section
variable {P:Program} {w0:Fr} {M0:Nat→Prop}
variable {o:Oper} {ρ:Operand→Option SV} {ob:List (Nat×Ob)} {d:SV} {x y z:Operand} {T T' e:TypeId} {k b:Nat} {c:Cls} {id off:Nat} {s:St} {t:Nat} {ks:List Value} {vs:List AV} {kt et:TypeId} {kd:TypeDesc}
theorem rep_aval {w:World} {M:Nat→Prop} {v:Value} {cs:List AV} {l:List Value} (h:Rep w M v (.agg cs)) (hl:scsOf cs=some l):v=.agg l.toArray:=by
  have hc:=scsOf_get hl
  cases h with
  | agg vs _ hn hlf hr =>
    congr 2
    refine List.ext_getElem (by rw [hn,hc,List.length_map]) fun i h1 h2=>?_
    have:=hr i (.sc l[i]) (by rw [hc,List.getElem?_map,List.getElem?_eq_getElem h2];rfl)
    rw [List.getD_eq_getElem?_getD,List.getElem?_eq_getElem h1,Option.getD_some] at this
    generalize vs[i]=q at this ⊢
    generalize l[i]=q' at this ⊢
    cases this;rfl
theorem ascal_ok {E : Env} {w : World} {ev : Operand → Value} (h : ∀ x e, ρ x = some e → SVok P M0 w E ob (ev x) e) {u : Value} (hx : ascal ρ x = some u) : ev x = u := by
  unfold ascal at hx
  cases hr:ρ x with
  | none=>rw [hr] at hx;cases hx
  | some e =>
    rw [hr] at hx
    simp only [Option.bind_some] at hx
    unfold SV.aval at hx
    split at hx
    · split at hx
      · rename_i l hl
        simp only [Option.some.injEq] at hx
        subst hx
        exact rep_aval (h x _ hr) hl
      · cases hx
    · cases hx
theorem step_insert {s':St} (ho:o.op=.insert T x y z) (h:Step P w0 M0 { o with op:=.mapUpdate T x y z } s s'):Step P w0 M0 o s s':=by
  intro a w Q hs
  have:=h a w Q hs
  have e:execOp a.eval o=execOp a.eval { o with op:=.mapUpdate T x y z }:=by simp [execOp,ho]
  unfold Oper.wp at this ⊢
  rw [e];exact this
theorem kfind (K:Maps.Keyed P kt) {key:Value} {lk:Lit} (hk:keyOf P kt key=some lk) (hks:∀ u∈ks,∃ l,keyOf P kt u=some l) (hnd:ks.Nodup) {es:Array MapEntry} (h3:es.toList.map (·.key)=ks) (w:World) :
    (Instr.findKey kt key es.toList).run P w=.ok ((kpos ks key).map fun j=>(j,(es.toList.map (·.val)).getD j undef)) w:=by
  rcases K.find w hk es.toList (fun e he=>hks _ (by rw [← h3];exact List.mem_map_of_mem he)) with ⟨h1,h2⟩|⟨j,e,h1,h2,h4⟩
  · rw [h1,kpos_none.2 (fun hm=>by rw [← h3] at hm;obtain ⟨e,he,hek⟩:=List.mem_map.1 hm;exact h2 e he hek)];rfl
  · have hj : ks[j]? = some key := by rw [← h3, List.getElem?_map, h2, ← h4]; rfl
    rw [h1,kpos_of_nodup hnd hj]
    simp only [Option.map_some]
    rw [List.getD_eq_getElem?_getD,List.getElem?_map,h2];rfl

theorem step_putK {key : Value} {a0 : AV} {lk : Lit} (K : Maps.Keyed P kt) (ho : o.op = .mapUpdate T x y z) (hd : o.dst = none) (hnd : Nodup s.s = true) (hT : P.underlying T = some (.map kt et)) (hx : s.ev x = some (.omap id)) (hl : s.o.lookup id = some (.mp ks vs))
    (hy:ascal s.ev y=some key) (hz:viewAt s.ev s.o z=some (.pl,a0)) (hk:keyOf P kt key=some lk) (hks:∀ u∈ks,∃ l,keyOf P kt u=some l) (hkn:ks.Nodup) (hM0:∀ b,M0 b→b<w0.w.heap.size) :
    Step P w0 M0 o s (s.upd false id (.mp (putK ks key) (putV ks vs key a0))):=by
  rintro a w Q ⟨E,hs⟩
  have hxv:=hs.ev hx ks vs hl
  have hyv:a.eval y=key:=ascal_ok (ρ:=s.ev) (x:=y) (ob:=s.o) (ev:=a.eval) (fun x e hx=>hs.ev hx) hy
  have hzv:=viewAt_ok hs.wok (fun x e hx=>hs.ev hx) hz
  have hob:=hs.wok.objs id _ hl
  obtain ⟨es,clock,h1,h2,h3,h4,h5⟩:=hob
  have hf:=kfind K hk hks hkn h3 w
  have key3:∃ (es':Array MapEntry) (clock':Nat),(Instr.mapUpdate T (.map (some (E.blk id))) key (a.eval z)).run P w=.ok () (setBlock w (E.blk id) (.map es' clock'))∧es'.toList.map (·.key)=putK ks key ∧
      (putK ks key).length=(putV ks vs key a0).length∧(∀ (j:Nat) d,(putV ks vs key a0)[j]?=some d→Rep w (clsM M0 (owned E s.o) .pl) ((es'.toList.map (·.val)).getD j undef) d):=by
    unfold putK putV
    cases hp:kpos ks key with
    | none =>
      rw [hp] at hf;simp [Option.map] at hf
      refine ⟨es.push ⟨key,a.eval z,clock⟩,clock+1,?_,by simp [h3],by simp [h4],fun j d hd=>?_⟩
      · simp [Instr.mapUpdate,run_underlying hT,MapKept.run_getObj_map h1,K.check w false hk,hf,MapKept.run_setObj_map _ h1,Result.andThen,setBlock]
      · have hvl : (es.toList.map (·.val)).length = vs.length := by rw [← h4, ← h3]; simp
        simp only [Array.toList_push,List.map_append,List.map_singleton]
        rw [List.getD_eq_getElem?_getD]
        rcases Nat.lt_or_ge j vs.length with hj|hj
        · rw [List.getElem?_append_left (by omega)] at hd
          rw [List.getElem?_append_left (by omega),← List.getD_eq_getElem?_getD]
          exact h5 j d hd
        · rw [List.getElem?_append_right hj] at hd
          rw [List.getElem?_append_right (by omega),hvl]
          cases hj0:j-vs.length with
          | zero=>rw [hj0] at hd;simp only [List.getElem?_cons_zero,Option.some.injEq] at hd;subst hd;exact hzv
          | succ q=>rw [hj0] at hd;simp at hd
    | some i =>
      rw [hp] at hf;simp [Option.map] at hf
      have hki:=kpos_some hp
      rw [← h3,List.getElem?_map,Option.map_eq_some_iff] at hki
      obtain ⟨e0,he0,hek⟩:=hki
      rw [Array.getElem?_toList] at he0
      have hkeys:(es.modify i fun e=>{ e with key:=key,val:=a.eval z }).toList.map (·.key)=ks:=by
        rw [modify_keys i _ (fun e he=>by rw [he0] at he;simp only [Option.some.injEq] at he;subst he;exact hek.symm),h3]
      refine ⟨es.modify i fun e=>{ e with key:=key,val:=a.eval z },clock,?_,hkeys,by simp [h4],fun j d hd=>?_⟩
      · have hst := K.stays w hk
        simp [Instr.mapUpdate,run_underlying hT,MapKept.run_getObj_map h1,K.check w false hk,hf,MapKept.run_setObj_map _ h1,Result.andThen,setBlock,he0,hek,hst]
      · have hvl : (es.toList.map (·.val)).length = vs.length := by rw [← h4, ← h3]; simp
        rw [List.getElem?_set] at hd
        rw [List.getD_eq_getElem?_getD,List.getElem?_map,Array.getElem?_toList,Array.getElem?_modify]
        split at hd
        · rename_i hij
          subst hij
          rw [if_pos rfl,he0]
          split at hd
          · simp only [Option.some.injEq] at hd;subst hd;exact hzv
          · cases hd
        · rename_i hij
          rw [if_neg hij,← Array.getElem?_toList,← List.getElem?_map,← List.getD_eq_getElem?_getD]
          exact h5 j d hd
  obtain ⟨es',clock',hrun,hkeys,hlen,hreps⟩:=key3
  unfold Oper.wp
  have hexec:(execOp a.eval o).run P w=.ok .skip (setBlock w (E.blk id) (.map es' clock')):=by
    simp [execOp,ho,hxv,hyv,hrun,Result.andThen]
  rw [hexec]
  simp only [Oper.upon,hd,Act.put]
  have hgrow:w.grownBy (setBlock w (E.blk id) (.map es' clock')) (some (E.blk id)):=⟨rfl,rfl,rfl,by simp [setBlock],fun i _ hi=>heap_setBlock_other h1 _ (fun e=>hi (by rw [e]))⟩
  refine ⟨E,hs.upd false (fun _=>⟨rfl,.inr (.inr ⟨ks,vs,_,_,hl,rfl⟩)⟩) hnd hM0 (fun i hi=>⟨rfl,rfl⟩) (.inr rfl) (some (E.blk id)) hgrow (fun _=>Nat.le_refl _) (fun g hg=>⟨_,hl,by simpa [ownB] using hg⟩) (fun b hb=>.inl ⟨_,hl,hb⟩) (fun rep sv=>?_)⟩
  exact ⟨es',clock',heap_setBlock_same h1 _,h2,hkeys,hlen,fun j d hj=>rep .pl _ _ (hreps j d hj) (by simp)⟩

theorem run_mlookK {u : Value} {w : World} {M : Nat → Prop} {v key : Value} {lk : Lit} (K : Maps.Keyed P kt) (hT : P.underlying T = some (.map kt et)) (hz : (P.info? et).bind (·.zero) = some u) (hu : u.oneCell' = true)
    (hr:Rep w M v (.mp ks vs)) (hk:keyOf P kt key=some lk) (hks:∀ u∈ks,∃ l,keyOf P kt u=some l) (hkn:ks.Nodup):∃ r,Rep w M r (mlook (.sc u) ks vs key)∧∀ ok,(Instr.lookup T v key ok).run P w=.ok (if ok=true then .tuple #[r,.bool (mhas ks key)] else r) w:=by
  cases hr with
  | mp b es clock ks vs hM hb h1 h3 h4 h5 =>
    have hf:=kfind K hk hks hkn h3 w
    cases hi:P.info? et with
    | none=>rw [hi] at hz;cases hz
    | some it =>
      rw [hi] at hz
      simp only [Option.bind_some] at hz
      unfold mlook mhas
      cases hp:kpos ks key with
      | none =>
        rw [hp] at hf
        refine ⟨u,.sc u hu,fun ok=>?_⟩
        cases ok<;>simp [Instr.lookup,run_underlying hT,MapKept.run_getObj_map h1,K.check w _ hk,hf,Result.andThen,zeroValue,typeInfo,hi,hz]
      | some j =>
        rw [hp] at hf
        have hkj:=kpos_some hp
        have hj:j<vs.length:=by rw [← h4];exact (List.getElem?_eq_some_iff.1 hkj).1
        refine ⟨(es.toList.map (·.val)).getD j undef,?_,fun ok=>?_⟩
        · have := h5 j vs[j] (List.getElem?_eq_getElem hj)
          show Rep w M _ (vs.getD j (AV.sc u))
          rw [List.getD_eq_getElem?_getD (l:=vs),List.getElem?_eq_getElem hj]
          exact this
        · cases ok<;>simp [Instr.lookup,run_underlying hT,MapKept.run_getObj_map h1,K.check w _ hk,hf,Result.andThen]
theorem pure_mlookK {u key:Value} {a0:AV} {lk:Lit} (K:Maps.Keyed P kt) (ho:o.op=.lookup T x y false) (hT:P.underlying T=some (.map kt et)) (hz:(P.info? et).bind (·.zero)=some u) (hu:u.oneCell'=true)
    (hx:viewAt ρ ob x=some (c,.mp ks vs)) (hy:ascal ρ y=some key) (hk:keyOf P kt key=some lk) (hks:∀ u∈ks,∃ l,keyOf P kt u=some l) (hkn:ks.Nodup) (ha:mlook (.sc u) ks vs key=a0):Pure P w0 M0 o ρ ob (.v c a0) :=
  pure_value fun E w ev hw h=>by
    have hyv:ev y=key:=ascal_ok h hy
    obtain ⟨r,h1,h2⟩:=run_mlookK K hT hz hu (viewAt_ok hw h hx) hk hks hkn
    refine ⟨r,w,by simp [execOp,ho,hyv,h2 false],.refl _ _,?_⟩
    rw [← ha];exact h1
theorem pure_mlookK2 {u key:Value} {a0:AV} {b0:Bool} {lk:Lit} (K:Maps.Keyed P kt) (ho:o.op=.lookup T x y true) (hT:P.underlying T=some (.map kt et)) (hz:(P.info? et).bind (·.zero)=some u) (hu:u.oneCell'=true)
    (hx:viewAt ρ ob x=some (c,.mp ks vs)) (hy:ascal ρ y=some key) (hk:keyOf P kt key=some lk) (hks:∀ u∈ks,∃ l,keyOf P kt u=some l) (hkn:ks.Nodup) (ha:mlook (.sc u) ks vs key=a0) (hb:mhas ks key=b0):Pure P w0 M0 o ρ ob (.v c (.tup [a0,.sc (.bool b0)])) :=
  pure_value fun E w ev hw h=>by
    have hyv:ev y=key:=ascal_ok h hy
    obtain ⟨r,h1,h2⟩:=run_mlookK K hT hz hu (viewAt_ok hw h hx) hk hks hkn
    refine ⟨.tuple #[r,.bool (mhas ks key)],w,by simp [execOp,ho,hyv,h2 true],.refl _ _,?_⟩
    refine .tup [r,.bool (mhas ks key)] _ rfl fun j d hj=>?_
    match j with
    | 0=>simp only [List.getElem?_cons_zero,Option.some.injEq] at hj;subst hj;rw [← ha];exact h1
    | 1=>simp only [List.getElem?_cons_succ,List.getElem?_cons_zero,Option.some.injEq] at hj;subst hj;rw [← hb];exact .sc _ rfl
    | j+2=>simp at hj

/-! Look-ups where keys are told by a list. -/
theorem kpos_map {α : Type} [DecidableEq α] {g : α → Value} : ∀ {l : List α} {a : α}, (∀ b ∈ l, g b = g a → b = a) → kpos (l.map g) (g a) = if a ∈ l then some (l.idxOf a) else none
  | [],a,_=>by simp [kpos]
  | b :: r, a, h => by
    rw [List.map_cons]
    unfold kpos
    by_cases hb:b=a
    · subst hb;simp
    · have hne : g b ≠ g a := fun q => hb (h b List.mem_cons_self q)
      rw [if_neg hne,kpos_map (l:=r) (fun c hc=>h c (List.mem_cons_of_mem _ hc))]
      by_cases ha:a∈r
      · rw [if_pos ha, if_pos (List.mem_cons_of_mem _ ha), List.idxOf_cons]
        simp [beq_eq_false_iff_ne.2 hb]
      · rw [if_neg ha,if_neg (by rw [List.mem_cons,not_or];exact ⟨fun q=>hb q.symm,ha⟩)];rfl
theorem mhas_map {α:Type} [DecidableEq α] {g:α→Value} {l:List α} {a:α} (h:∀ b∈l,g b=g a→b=a):mhas (l.map g) (g a)=decide (a∈l):=by
  unfold mhas;rw [kpos_map h];by_cases q:a∈l<;>simp [q]
theorem putK_map {α:Type} [DecidableEq α] {g:α→Value} {l:List α} {a:α} (h:∀ b∈l,g b=g a→b=a) (ha:a ∉ l):putK (l.map g) (g a)=(l++[a]).map g:=by
  unfold putK;rw [kpos_map h,if_neg ha];simp
theorem putV_map {α:Type} [DecidableEq α] {g:α→Value} {l:List α} {a:α} {vs:List AV} {x:AV} (h:∀ b∈l,g b=g a→b=a) (ha:a ∉ l):putV (l.map g) vs (g a) x=vs++[x]:=by
  unfold putV;rw [kpos_map h,if_neg ha]
theorem mlook_map {α:Type} [DecidableEq α] {g:α→Value} {l:List α} {a:α} {z:AV} {f:Nat→AV} (h:∀ b∈l,g b=g a→b=a) (ha:a∈l):mlook z (l.map g) ((List.range l.length).map f) (g a)=f (l.idxOf a):=by
  unfold mlook;rw [kpos_map h,if_pos ha]
  simp only []
  rw [List.getD_eq_getElem?_getD,List.getElem?_map,List.getElem?_range (List.idxOf_lt_length_of_mem ha)];rfl
theorem mlook_not {α:Type} [DecidableEq α] {g:α→Value} {l:List α} {a:α} {z:AV} {vs:List AV} (h:∀ b∈l,g b=g a→b=a) (ha:a ∉ l):mlook z (l.map g) vs (g a)=z:=by
  unfold mlook;rw [kpos_map h,if_neg ha]
end
end Go.Am

