/-
  Plain functions: how much the lists of the cover hold, from tables.
-/
import Derived.Test.YtgdehkimfmfofaaGreatJ21
import Derived.Test.YtgdehkimfmfofaaGreatJ18
import Derived.Test.YtgdehkimfmfofaaGreatJ7
import Derived.Test.YtgdehkimfmfofaaGreatJ20
set_option linter.unusedVariables false
set_option linter.unusedSimpArgs false
namespace Go.Am
open Go.RowKit
set_option linter.unusedVariables false
section
variable {P : Program} {w0 : Fr} {M0 : Nat → Prop} {ops : Array Oper} {Q : St → Prop}
def midOkS (ops : Array Oper) (n k a : Nat) : Bool := (List.range k).all fun i => match ops[i]? with
  | none => false
  | some o => o.guard.isNone && (match o.dst with | some t => !(Nat.beq i a) && Nat.blt t n | none => Nat.beq i a) &&
    (List.range k).all fun j => match (ops[j]?).bind (·.dst) with
      | some u => !(looks ops o).contains u || (preds o).contains j
      | none => true
set_option maxHeartbeats 2000000 in
theorem code_drawS {id : Nat} {n : Nat} {s0 : List (Nat × SV)} {o1 o2 : List (Nat × Ob)} (a k : Nat) (G : List (Nat × SV)) {Q' : Exit → St → Prop} (hm : P.follows .mixedOrders = true) (hok : drawOk ops = true) (htl : phaseOk ops k = true) (hmid : midOkS ops n k a = true) (hka : Nat.blt a k = true) (hks : Nat.ble k ops.size = true)
    (hG : ∀ t d, (G.filter fun p => keepL ops k #[] p.1).lookup t = some d → s0.lookup t = some d) (hnd : Nodup G = true)
    (hset : ∀ i, i < k → i ≠ a → ∃ t d, (ops[i]?).bind (·.dst) = some t ∧ G.lookup t = some d)
    (h1 : ∀ i o t d, i < k → i ≠ a → ops[i]? = some o → o.dst = some t → G.lookup t = some d → (ancs ops ops.size i).contains a = false → Pure P w0 M0 o (restr ops o (St.ev ⟨n, G, o1⟩)) o1 d)
    (h2 : ∀ i o t d, i < k → i ≠ a → ops[i]? = some o → o.dst = some t → G.lookup t = some d → (ancs ops ops.size a).contains i = false → Pure P w0 M0 o (restr ops o (St.ev ⟨n, G, o2⟩)) o2 d)
    (hA : ∀ o X, ops[a]? = some o → Nodup X = true → (∀ t d, X.lookup t = some d → G.lookup t = some d) → (∀ t, t ∈ looks ops o → X.lookup t = G.lookup t) → ∃ s', Step P w0 M0 o ⟨n, X, o1⟩ s' ∧ Imp P w0 M0 s' ⟨n, X, o2⟩)
    (hend : EndL P w0 M0 ops (fun s => ∃ s', Imp P w0 M0 s s' ∧ Q' .normal s') k ⟨n, G, o2⟩) : CodeOk P w0 M0 (.region id ops true) ⟨n, s0, o1⟩ Q' := by
  have hka : a < k := by simpa using hka
  have hks := Nat.le_of_ble_eq_true hks
  obtain ⟨hns, hsp⟩ := drawOk_spec hok
  have hlt : ∀ i o, ops[i]? = some o → ∀ j ∈ preds o, j < i := fun i o ho => (hsp i o ho).1
  have hmid' : ∀ i o, i < k → ops[i]? = some o → o.guard = none ∧ (if i = a then o.dst = none else ∃ t, o.dst = some t ∧ t < n) ∧ ∀ j u, j < k → (ops[j]?).bind (·.dst) = some u → u ∈ looks ops o → j ∈ preds o := by
    intro i o hi ho
    unfold midOkS at hmid
    rw [List.all_eq_true] at hmid
    have h := hmid i (List.mem_range.2 hi)
    simp only [ho, Bool.and_eq_true, List.all_eq_true] at h
    refine ⟨by simpa using h.1.1, ?_, fun j u hj hu hl => ?_⟩
    · by_cases hia : i = a
      · rw [if_pos hia]
        cases hd : o.dst with
        | none => rfl
        | some t =>
          have h2 := h.1.2
          rw [hd] at h2
          simp [hia] at h2
      · rw [if_neg hia]
        cases hd : o.dst with
        | none =>
          have h2 := h.1.2
          rw [hd] at h2
          exact absurd (by simpa using h2) hia
        | some t =>
          have h2 := h.1.2
          rw [hd] at h2
          simp only [Bool.and_eq_true] at h2
          exact ⟨t, rfl, by simpa using h2.2⟩
    · have := h.2 j (List.mem_range.2 hj)
      rw [hu] at this
      simp only [Bool.or_eq_true, Bool.not_eq_true'] at this
      rcases this with h' | h'
      · have : (looks ops o).contains u = true := List.contains_iff_mem.2 hl
        rw [h'] at this; cases this
      · exact List.contains_iff_mem.1 h'
  let oL : Array Bool → List (Nat × Ob) := fun L => if L.getD a false then o2 else o1
  let sL : Array Bool → St := fun L => ⟨n, G.filter (fun p => keepL ops k L p.1), oL L⟩
  have main : ∀ (fuel : Nat) (L : Array Bool) (ac : Act) (w : World), L.size = ops.size → Closed ops L → (∀ j, k ≤ j → L.getD j false = false) → Sim P w0 M0 (sL L) ac w →
      ((List.range ops.size).filter (fun j => !L.getD j false)).length ≤ fuel →
      wpAny P .any ops (fun e a' w' => e = .normal ∧ ∃ s', (∃ s'', Imp P w0 M0 s' s'' ∧ Q' .normal s'') ∧ Sim P w0 M0 s' a' w') fuel L ac w := by
    intro fuel
    have ready_ne : ∀ (L : Array Bool), L.size = ops.size → ∀ j, j < ops.size → L.getD j false = false → Region.ready .any ops L ≠ [] := by
      intro L hL j
      induction j using Nat.strongRecOn with
      | _ j ih =>
        intro hj hf
        by_cases hall : ∀ i ∈ preds ops[j], L.getD i false = true
        · intro he
          have : j ∈ Region.ready .any ops L := ready_iff.2 ⟨by
            have : L[j]? = some L[j] := Array.getElem?_eq_getElem (by omega)
            simp [this] at hf ⊢; exact hf, ops[j], Array.getElem?_eq_getElem hj, hall⟩
          rw [he] at this; cases this
        · simp only [Classical.not_forall] at hall
          obtain ⟨i, hi, hif⟩ := hall
          have hij := hlt j ops[j] (Array.getElem?_eq_getElem hj) i hi
          exact ih i hij (by omega) (by cases hh : L.getD i false <;> simp_all)
    -- once all up to k are carried out
    have rest : ∀ (f : Nat) (L : Array Bool) (ac : Act) (w : World), L.size = ops.size → (∀ j, k ≤ j → L.getD j false = false) → (∀ j, j < k → L.getD j false = true) → Sim P w0 M0 (sL L) ac w → ((List.range ops.size).filter (fun j => !L.getD j false)).length ≤ f →
        wpAny P .any ops (fun e a' w' => e = .normal ∧ ∃ s', (∃ s'', Imp P w0 M0 s' s'' ∧ Q' .normal s'') ∧ Sim P w0 M0 s' a' w') f L ac w := by
      intro f L ac w hL hk hall hs hf
      have hiff : ∀ j, j < ops.size → (L.getD j false = true ↔ j < k) := fun j hj => ⟨fun h => (by
        rcases Nat.lt_or_ge j k with h' | h'
        · exact h'
        · rw [hk j h'] at h; cases h), hall j⟩
      have h3 : (List.range ops.size).filter (fun j => !L.getD j false) = (List.range ops.size).filter (fun j => decide (k ≤ j)) := by
        apply List.filter_congr
        intro j hj
        have hj' := List.mem_range.1 hj
        cases hv : L.getD j false
        · have : ¬ j < k := fun h => by rw [(hiff j hj').2 h] at hv; cases hv
          simp; omega
        · have := (hiff j hj').1 hv
          simp; omega
      rw [h3, count_ge] at hf
      have hs2 : Sim P w0 M0 ⟨n, G, o2⟩ ac w := by
        refine imp_slots (s := sL L) (s' := ⟨n, G, o2⟩) rfl (by show o2 = oL L; simp only [oL]; rw [if_pos (hall a hka)]) (fun t d ht => ?_) ac w hs
        show (G.filter (fun p => keepL ops k L p.1)).lookup t = some d
        rw [lookup_filt, if_pos (keepL_iff.2 fun j hj _ => hall j hj)]
        exact ht
      exact hend f L ac w hL hiff hs2 hf
    induction fuel with
    | zero =>
      intro L ac w hL hc hk hs hfu
      have hall : ∀ j, j < ops.size → L.getD j false = true := by
        intro j hj
        cases hf : L.getD j false
        · have : j ∈ (List.range ops.size).filter (fun j => !L.getD j false) := List.mem_filter.2 ⟨List.mem_range.2 hj, by simp [hf]⟩
          have := List.length_pos_of_mem this
          omega
        · rfl
      exact rest 0 L ac w hL hk (fun j hj => hall j (by omega)) hs hfu
    | succ fuel ih =>
      intro L ac w hL hc hk hs hfu
      by_cases hallk : ∀ j, j < k → L.getD j false = true
      · exact rest _ L ac w hL hk hallk hs hfu
      refine ⟨fun hr => ?_, fun i hi => ?_⟩
      · exfalso
        apply hallk
        intro j hj
        cases hf : L.getD j false
        · exact absurd hr (ready_ne L hL j (by omega) hf)
        · rfl
      · obtain ⟨hni, o, ho, hpre⟩ := ready_iff.1 hi
        have his := (Array.getElem?_eq_some_iff.1 ho).1
        have hLi : L.getD i false = false := by
          have hx : L[i]? = some L[i] := Array.getElem?_eq_getElem (by omega)
          simp [hx] at hni ⊢; exact hni
        have hik : i < k := by
          rcases Nat.lt_or_ge i k with h | h
          · exact h
          · exfalso
            apply hallk
            unfold phaseOk at htl
            rw [List.all_eq_true] at htl
            have h2 := htl i (List.mem_range.2 his)
            rw [Bool.or_eq_true] at h2
            rcases h2 with h2 | h2
            · have : i < k := by simpa using h2
              omega
            · rw [List.all_eq_true] at h2
              exact fun j hj => ancs_listed hc ops.size i o ho hpre hlt j (List.contains_iff_mem.1 (h2 j (List.mem_range.2 (by omega))))
        obtain ⟨hgd, hdst0, hread⟩ := hmid' i o hik ho
        have hlook : ∀ t, t ∈ looks ops o → (sL L).s.lookup t = G.lookup t := fun t ht => by
          show (G.filter (fun p => keepL ops k L p.1)).lookup t = _
          rw [lookup_filt, if_pos (keepL_iff.2 fun j hj hd => hpre j (hread j t hj hd ht))]
        have hstep : ∃ s', Step P w0 M0 o (sL L) s' ∧ Imp P w0 M0 s' (sL (L.setIfInBounds i true)) := by
          by_cases hia : i = a
          · rw [if_pos hia] at hdst0
            subst hia
            have hXnd : Nodup (sL L).s = true := nodup_filter _ _ hnd
            obtain ⟨s', g3, g4⟩ := hA o (sL L).s ho hXnd (fun t d ht => by
              have ht' : (G.filter (fun p => keepL ops k L p.1)).lookup t = some d := ht
              rw [lookup_filt] at ht'
              split at ht'
              · exact ht'
              · cases ht') hlook
            have hb : (ops[i]?).bind (·.dst) = none := by rw [ho]; exact hdst0
            refine ⟨s', ?_, g4.trans (imp_slots rfl ?_ (fun t d ht => ?_))⟩
            · have : sL L = ⟨n, (sL L).s, o1⟩ := by show (⟨_, _, oL L⟩ : St) = _; simp only [oL]; rw [hLi]; rfl
              rw [this]; exact g3
            · show oL _ = o2
              simp only [oL]; rw [getD_set (by omega), if_pos rfl]; rfl
            · have ht' : (G.filter (fun p => keepL ops k (L.setIfInBounds i true) p.1)).lookup t = some d := ht
              show (G.filter (fun p => keepL ops k L p.1)).lookup t = some d
              rw [lookup_filt] at ht' ⊢
              split at ht'
              · rename_i hkp
                rw [if_pos, ht']
                rw [keepL_iff] at hkp ⊢
                intro j hj hd
                have := hkp j hj hd
                rw [getD_set (by omega)] at this
                by_cases hji : j = i
                · subst hji; rw [hb] at hd; cases hd
                · rwa [if_neg hji] at this
              · cases ht'
          · rw [if_neg hia] at hdst0
            obtain ⟨ti, hdst, hti⟩ := hdst0
            obtain ⟨t', di, ht', hGi⟩ := hset i hik hia
            have hb : (ops[i]?).bind (·.dst) = some ti := by rw [ho]; exact hdst
            rw [hb] at ht'
            simp only [Option.some.injEq] at ht'
            subst ht'
            have hkeep : ∀ t, t ≠ ti → keepL ops k (L.setIfInBounds i true) t = true → keepL ops k L t = true := fun t hne h => by
              rw [keepL_iff] at h ⊢
              intro j hj hd
              have := h j hj hd
              rw [getD_set (by omega)] at this
              by_cases hji : j = i
              · subst hji; rw [hb] at hd; simp only [Option.some.injEq] at hd; exact absurd hd.symm hne
              · rwa [if_neg hji] at this
            have hself : keepL ops k L ti = false := by
              cases hq : keepL ops k L ti with
              | false => rfl
              | true => have := keepL_iff.1 hq i hik hb; rw [hLi] at this; cases this
            have hnone : (sL L).s.lookup ti = none := by
              show (G.filter (fun p => keepL ops k L p.1)).lookup ti = _
              rw [lookup_filt, hself]; rfl
            have hfin : ∀ ob, ob = oL (L.setIfInBounds i true) → Imp P w0 M0 ⟨n, ins ti di (sL L).s, ob⟩ (sL (L.setIfInBounds i true)) := fun ob hob => by
              refine imp_slots rfl hob.symm (fun t d ht => ?_)
              have ht' : (G.filter (fun p => keepL ops k (L.setIfInBounds i true) p.1)).lookup t = some d := ht
              rw [lookup_filt] at ht'
              split at ht'
              · rename_i hkp
                rw [lookup_ins]
                by_cases hne : t = ti
                · subst hne
                  rw [if_pos rfl, ← hGi, ht']
                · rw [if_neg hne]
                  show (G.filter (fun p => keepL ops k L p.1)).lookup t = _
                  rw [lookup_filt, if_pos (hkeep t hne hkp)]; exact ht'
              · cases ht'
            have hL' : (L.setIfInBounds i true).getD a false = L.getD a false := by rw [getD_set (by omega), if_neg (Ne.symm hia)]
            have hpure : Pure P w0 M0 o (restr ops o (St.ev ⟨n, G, oL L⟩)) (oL L) di := by
              simp only [oL]
              by_cases hLa : L.getD a false = true
              · rw [if_pos hLa]
                refine h2 i o ti di hik hia ho hdst hGi ?_
                cases hq : (ancs ops ops.size a).contains i with
                | false => rfl
                | true =>
                  have hao : ops[a]? = some ops[a] := Array.getElem?_eq_getElem (by omega)
                  have := ancs_listed hc ops.size a ops[a] hao (fun j hj => hc a _ hao hLa j hj) hlt i (List.contains_iff_mem.1 hq)
                  rw [hLi] at this; cases this
              · rw [if_neg hLa]
                refine h1 i o ti di hik hia ho hdst hGi ?_
                cases hq : (ancs ops ops.size i).contains a with
                | false => rfl
                | true => exact absurd (ancs_listed hc ops.size i o ho hpre hlt a (List.contains_iff_mem.1 hq)) hLa
            have hpure' : Pure P w0 M0 o (sL L).ev (sL L).o di := hpure.mono fun x e hx => by
              cases x with
              | tmp t =>
                by_cases hcn : (looks ops o).contains t = true
                · simp only [restr, hcn, if_true] at hx
                  show (sL L).s.lookup t = some e
                  rw [hlook t (List.contains_iff_mem.1 hcn)]; exact hx
                · simp only [restr, hcn] at hx; cases hx
              | const v => exact hx
              | func f => exact hx
              | global g => exact hx
            refine ⟨_, step_pure hdst hti hpure', hfin _ ?_⟩
            show oL L = _
            simp only [oL]; rw [hL']
        obtain ⟨s', hst, himp⟩ := hstep
        unfold wpOp
        simp only [ho, Region.wanted, hgd, if_true]
        refine .inl (Oper.wp_mono (fun a' w' h' => ?_) (hst ac w _ hs))
        refine ih (L.setIfInBounds i true) a' w' (by simp [hL]) (fun j p hp hLj x hx => ?_) (fun j hj => ?_) (himp a' w' h') ?_
        · rw [getD_set (by omega)] at hLj ⊢
          by_cases hji : j = i
          · subst hji
            obtain rfl : p = o := by rw [ho] at hp; exact (Option.some.inj hp).symm
            split
            · rfl
            · exact hpre x hx
          · rw [if_neg hji] at hLj
            split
            · rfl
            · exact hc j p hp hLj x hx
        · rw [getD_set (by omega), if_neg (by omega)]; exact hk j hj
        · have hlt' := filter_lt (fun j => !L.getD j false) (fun j => !(L.setIfInBounds i true).getD j false) (fun x hx => by
            rw [getD_set (by omega)] at hx
            split at hx
            · cases hx
            · exact hx) (List.range ops.size) i (List.mem_range.2 his) (by rw [hLi]; rfl) (by rw [getD_set (by omega), if_pos rfl]; rfl)
          omega
  rintro ac w hs
  have hw : BelowD w0.dr w.heap.size w { w with drawn := w.drawn + 1 } := (Below.refl _ _).drew
  have h0 := main ops.size (Array.replicate ops.size false) ac { w with drawn := w.drawn + 1 } (by simp) (fun i o ho hL => by
      have his := (Array.getElem?_eq_some_iff.1 ho).1
      simp [his] at hL) (fun j hj => by
      rcases Nat.lt_or_ge j ops.size with h | h <;> simp [h]) (by
      refine imp_slots (s := ⟨n, s0, o1⟩) (s' := sL (Array.replicate ops.size false)) rfl ?_ (fun t d ht => hG t d ?_) ac _ (hs.grow hw)
      · show oL _ = o1
        simp only [oL]
        rw [if_neg]
        have : a < ops.size := by omega
        simp [this]
      · have ht' : (G.filter (fun p => keepL ops k (Array.replicate ops.size false) p.1)).lookup t = some d := ht
        rw [lookup_filt] at ht' ⊢
        split at ht'
        · rename_i hkp
          rw [if_pos, ht']
          rw [keepL_iff] at hkp ⊢
          intro j hj hd
          have := hkp j hj hd
          have hjs : j < ops.size := by omega
          simp [hjs] at this
        · cases ht') (by
      have := List.length_filter_le (fun j => !(Array.replicate ops.size false).getD j false) (List.range ops.size)
      simpa using this)
  refine wp_mono (wp_region_any hm h0) fun e a' w' ⟨he, s', ⟨s2, hi, hq⟩, h2⟩ => ?_
  subst he
  exact ⟨s2, hq, hi a' w' h2⟩
theorem all_stays0 {G : List (Nat × SV)} {id : Nat} (h : (G.all fun p => p.2.stays false id) = true) {u : Nat} {d : SV} (hl : G.lookup u = some d) : d.stays false id = true := List.all_eq_true.1 h _ (lookup_mem hl)
theorem step_storeD {o : Oper} {X : List (Nat × SV)} {o1 o2 : List (Nat × Ob)} {T e : TypeId} {c : Cls} {a0 : AV} {cs : List SV} {n u v k id off : Nat} (ho : o.op = .store T (.tmp u) (.tmp v)) (hd : o.dst = none) (hnd : Nodup X = true) (hk : szOf P T = some k) (hu : X.lookup u = some (.pbox id off)) (hl : o1.lookup id = some (.box e cs)) (hv : X.lookup v = some (.v c a0))
    (hnt : notTup a0 = true) (hc : c ≠ .vw) (hn : (boxCells (.v c a0)).length = k) (hle : Nat.ble (off + k) cs.length = true) (hs : ∀ t d, X.lookup t = some d → d.stays false id = true) (ho2 : ins id (.box e (spl (keepC id cs) off (boxCells (.v c a0)))) (killO false id o1) = o2) (hM0 : ∀ b, M0 b → b < w0.w.heap.size) :
    ∃ s', Step P w0 M0 o ⟨n, X, o1⟩ s' ∧ Imp P w0 M0 s' ⟨n, X, o2⟩ :=
  ⟨_, step_store_box (s := ⟨n, X, o1⟩) ho hd hnd hk hu hl hv hnt hc hn hle hM0, imp_slots rfl ho2.symm fun t d h => lookup_keeps (fun e => e.stays false id) X t d hnd h (hs t d h)⟩
end
end Go.Am

namespace Go.Wc
open Go.Am
abbrev poolL : List (List UInt8) := [[97], [98], [99], [101], [105], [110], [115], [116], [99, 104], [195, 169], [65], [115, 99, 104], [104], [108], [195, 182], [117]]
def atV (l : List Int) (i most : Int) : Int := atL l i most
def letter0 (l : List Int) (start : Int) (i : Nat) : Letter := ⟨poolL.getD ((start + i) % 16).toNat default, i, 0, 0, 1 + atL l (2 + i) 9⟩
def letterI (l : List Int) (start : Int) (a : List Letter) (i : Nat) : Letter :=
  if 0 < i ∧ atL l (10 + i) 3 = 1 then { letter0 l start i with base := (a.getD (atL l (20 + i) i).toNat default).base, mark := atL l (30 + i) 4, cap := atL l (40 + i) 2 } else letter0 l start i
def lettersN (l : List Int) (start : Int) : Nat → List Letter
  | 0 => []
  | i + 1 => lettersN l start i ++ [letterI l start (lettersN l start i) i]
def lettersP (l : List Int) : List Letter := lettersN l (atL l 1 16) (3 + atL l 0 6).toNat
theorem lettersN_len (l : List Int) (start : Int) : ∀ i, (lettersN l start i).length = i
  | 0 => rfl
  | i + 1 => by simp [lettersN, lettersN_len l start i]
abbrev smallP : List Letter := [⟨[97], 0, 0, 0, 5⟩, ⟨[98], 1, 0, 0, 6⟩, ⟨[99], 2, 0, 0, 5⟩, ⟨[101], 3, 0, 0, 5⟩, ⟨[110], 4, 0, 0, 6⟩, ⟨[115], 5, 0, 0, 4⟩, ⟨[116], 6, 0, 0, 3⟩, ⟨[99, 104], 7, 0, 0, 10⟩, ⟨[195, 169], 3, 1, 0, 5⟩, ⟨[65], 0, 0, 1, 7⟩]
def manyP (n : Nat) : List Letter := (List.range n).map fun i => ⟨[UInt8.ofNat (97 + i / 20), UInt8.ofNat (97 + i % 20)], i, 0, 0, 1⟩
def bigL (l : List (List Int)) : Prop := ∀ v ∈ l, v.length ≤ 9223372036854775807
theorem bigL.get {l : List (List Int)} (h : bigL l) (k : Nat) : (l.getD k default).length ≤ 9223372036854775807 := by
  rw [List.getD_eq_getElem?_getD]
  cases hk : l[k]? with
  | none => exact Nat.zero_le _
  | some x => exact h x (List.mem_of_getElem? hk)
def rawP (l : List (List Int)) : List (List Int) := (l.take 8).map (List.take 12)
end Go.Wc

namespace Go.Wc
open Go.Am
structure okA (a : List Letter) : Prop where
  len : a.length ≤ 1099511627776
  txt : ∀ x ∈ a, x.text.length ≤ 9223372036854775807
theorem lettersP_len (l : List Int) : 3 ≤ (lettersP l).length ∧ (lettersP l).length ≤ 8 := by
  have := atL_lt (l := l) (i := 0) (most := 6) (by decide)
  unfold lettersP; rw [lettersN_len]; omega
theorem lettersN_get (l : List Int) (s : Int) : ∀ {i j : Nat}, j < i → (lettersN l s i).getD j default = letterI l s (lettersN l s j) j
  | 0, j, h => by omega
  | i + 1, j, h => by
    have hl := lettersN_len l s i
    rw [lettersN, List.getD_eq_getElem?_getD]
    by_cases hj : j = i
    · subst hj
      rw [List.getElem?_append_right (by omega), hl, Nat.sub_self]; rfl
    · rw [List.getElem?_append_left (by omega), ← List.getD_eq_getElem?_getD]
      exact lettersN_get l s (by omega)
theorem lettersN_base (l : List Int) (s : Int) (i : Nat) : ∀ j, j < i → 0 ≤ ((lettersN l s i).getD j default).base ∧ ((lettersN l s i).getD j default).base ≤ j ∧
    ((lettersN l s i).getD ((lettersN l s i).getD j default).base.toNat default).base = ((lettersN l s i).getD j default).base ∧ (((lettersN l s i).getD j default).base = j → ((lettersN l s i).getD j default).mark = 0 ∧ ((lettersN l s i).getD j default).cap = 0) := by
  intro j
  induction j using Nat.strongRecOn with
  | _ j ih =>
    intro hj
    have hx := lettersN_get l s hj
    by_cases hc : 0 < j ∧ atL l (10 + j) 3 = 1
    · have hq := atL_lt (l := l) (i := 20 + j) (most := j) (by omega)
      have hb : ((lettersN l s i).getD j default).base = ((lettersN l s i).getD (atL l (20 + j) j).toNat default).base := by
        rw [hx, letterI, if_pos hc, lettersN_get l s (i := i) (by omega), lettersN_get l s (i := j) (by omega)]
      obtain ⟨h1, h2, h3, h4⟩ := ih (atL l (20 + j) j).toNat (by omega) (by omega)
      rw [hb]
      refine ⟨h1, by omega, h3, fun h => ?_⟩
      omega
    · have hb : (lettersN l s i).getD j default = letter0 l s j := by rw [hx, letterI, if_neg hc]
      rw [hb]
      have e : (letter0 l s j).base = (j : Int) := rfl
      rw [e, Int.toNat_natCast, hb, e]
      exact ⟨by omega, by omega, rfl, fun _ => ⟨rfl, rfl⟩⟩
theorem letterI_nums (l : List Int) (s : Int) (a : List Letter) (j : Nat) : 0 ≤ (letterI l s a j).mark ∧ (letterI l s a j).mark ≤ 15 ∧ 0 ≤ (letterI l s a j).cap ∧ (letterI l s a j).cap ≤ 1 ∧ 1 ≤ (letterI l s a j).width ∧ (letterI l s a j).width ≤ 1000 := by
  have b1 := atL_lt (l := l) (i := 2 + j) (most := 9) (by decide)
  have b3 := atL_lt (l := l) (i := 30 + j) (most := 4) (by decide)
  have b4 := atL_lt (l := l) (i := 40 + j) (most := 2) (by decide)
  unfold letterI letter0
  split <;> (simp only []; omega)
theorem letterI_txt (l : List Int) (s : Int) (a : List Letter) (j : Nat) : (letterI l s a j).text = poolL.getD ((s + j) % 16).toNat default := by
  unfold letterI letter0; split <;> rfl
theorem pool_plain : ∀ n, n < 16 → plainT (poolL.getD n default) = true := by decide
theorem pool_apart : ∀ s, s < 16 → ∀ j, j < 8 → ∀ k, k < j → poolL.getD ((s + k) % 16) default ≠ poolL.getD ((s + j) % 16) default := by decide +kernel
theorem lettersP_valid (l : List Int) : validA (lettersP l) = true := by
  have hs := atL_lt (l := l) (i := 1) (most := 16) (by decide)
  have hlen := lettersP_len l
  generalize hi : (3 + atL l 0 6).toNat = i
  generalize hss : atL l 1 16 = s at hs
  have ha : lettersP l = lettersN l s i := by unfold lettersP; rw [hi, hss]
  rw [ha] at hlen ⊢
  rw [lettersN_len] at hlen
  have hn := lettersN_len l s i
  refine validA_good (n := i) (by omega) (by omega) fun j hj => ?_
  obtain ⟨h1, h2, h3, h4⟩ := lettersN_base l s i j hj
  have hx := lettersN_get l s hj
  have hm := letterI_nums l s (lettersN l s j) j
  rw [← hx] at hm
  have ht : ∀ k, k < i → ((lettersN l s i).getD k default).text = poolL.getD ((s.toNat + k) % 16) default := fun k hk => by
    rw [lettersN_get l s hk, letterI_txt]
    congr 1; omega
  refine ⟨⟨?_, h1, by omega, h3, hm.1, hm.2.1, hm.2.2.1, hm.2.2.2.1, hm.2.2.2.2.1, hm.2.2.2.2.2⟩, h4, fun k hk => ?_⟩
  · rw [ht j hj]; exact pool_plain _ (Nat.mod_lt _ (by decide))
  · rw [ht j hj, ht k (by omega)]
    exact pool_apart s.toNat (by omega) j (by omega) k hk
end Go.Wc

namespace Go.Wb
set_option linter.unusedVariables false
set_option linter.unusedSimpArgs false
open Go.Am
mutual
def dZ : Rx → Nat
  | .mk k s l => if k = 4 then 2 + dZs l else if k = 3 then 2 + Zq l else if k = 5 then 2 + dZs l + (Rx.mk k s l).size else 2
def dZs : List Rx → Nat
  | [] => 0
  | x :: l => dZ x + dZs l
def Zq : List Rx → Nat
  | [] => 0
  | x :: l => 2 + dZ x + Rx.sizes l + Zq l
end
theorem Nf.kid {x y : Rx} (h : Nf x) (hy : y ∈ x.kids) : Nf y := by
  cases h with
  | none => cases hy
  | empty => cases hy
  | set h => cases hy
  | seq h1 h2 h3 => exact h2 y hy
  | alt h1 h2 h3 h4 h5 h6 => exact h2 y hy
  | star h1 h2 h3 => rw [List.mem_singleton.1 hy]; exact h1
def WW : List (List Rx) → Nat
  | [] => 0
  | L :: l => 2 + Zq L + WW l
def sumTo (g : Nat → Nat) : Nat → Nat
  | 0 => g 0
  | n + 1 => sumTo g n + g (n + 1)
def sumP (g : Nat → Nat) : Nat → Nat
  | 0 => 0
  | n + 1 => sumP g n + g (n + 1)
structure Tab (C N R : Nat) (f F s S a A g G : Nat → Nat → Nat) : Prop where
  fa : ∀ c, c ≤ C → ∀ n, n ≤ N → f c n ≤ a c n ∧ F c n ≤ A c n
  sa : ∀ c, c ≤ C → ∀ n, n ≤ N → s c n ≤ a c n ∧ S c n ≤ A c n
  ag : ∀ c, c ≤ C → ∀ n, n ≤ N → a c n ≤ g c n ∧ A c n ≤ G c n
  fg : ∀ c, c ≤ C → ∀ n, n ≤ N → sumTo (fun j => 1 + f c j) n ≤ g c n ∧ sumTo (fun j => 10 + 2 * F c j + (1 + f c j) * R) n ≤ G c n
  sg : ∀ c, c ≤ C → ∀ n, n ≤ N → sumTo (fun j => s c j) n ≤ g c n ∧ sumTo (fun j => S c j + s c j * R) n ≤ G c n
  st : ∀ c, 2 ≤ c → c < C → ∀ n, n ≤ N → 1 + sumP (fun j => 1 + f c j) n ≤ s (c + 1) n ∧ 2 + R + sumP (fun j => 10 + 2 * F c j + (1 + f c j) * R) n ≤ S (c + 1) n
  alt : ∀ c, 1 ≤ c → c ≤ C → ∀ d, 1 ≤ d → d ≤ C - c → ∀ n, n ≤ N → a c n + a d n ≤ f (c + d) n ∧ A c n + A d n ≤ F (c + d) n
  seq : ∀ c, 2 ≤ c → c ≤ C → ∀ d, 2 ≤ d → d ≤ C - c → ∀ n, n ≤ N → g c n + g d n ≤ f (c + d) n ∧ G c n + G d n ≤ F (c + d) n
section
variable {C N R Z : Nat} {f F s S a A g G : Nat → Nat → Nat}
def Bd (N : Nat) (f F s S : Nat → Nat → Nat) (x : Rx) : Prop := ∀ v : List Int, v.length ≤ N →
  (x.kind ≠ 5 → (covT x v).length ≤ f (wtR x) v.length ∧ WW (covT x v) ≤ F (wtR x) v.length) ∧ (x.kind = 5 → (covT x v).length ≤ s (wtR x) v.length ∧ WW (covT x v) ≤ S (wtR x) v.length)
end
end Go.Wb

