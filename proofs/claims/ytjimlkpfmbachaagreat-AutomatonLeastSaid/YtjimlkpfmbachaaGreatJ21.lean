/-
  Three calls one after another in a drawn region, each of which turns one array and hands it on under another number.
-/
import Derived.Test.YtjimlkpfmbachaaGreatRows
import Derived.Shelf.SlGeneric
import Derived.Ground.SlgnProg
import Derived.Shelf.SlicesG.Reverse
import Derived.Test.YtjimlkpfmbachaaGreatJ20
set_option linter.unusedVariables false
set_option linter.unusedSectionVars false
set_option linter.unusedSimpArgs false
namespace Go.Proofs
open Go.Shelf
def Tryz.revI_ren : Go.Shelf.Ren := ⟨fun | 35 => 97 | n => n, fun | 22 => 22 | 23 => 3 | 3 => 3 | 4 => 4 | 0 => 0 | n => n, fun | n => n⟩
theorem Tryz.revI : Go.Proofs.SlLaysN.n35 Tryz.prog Tryz.revI_ren := {
  mixed := by kernel_rfl
  f35 := ⟨Tryz.f97.name, by decide, Tryz.func97.trans (congrArg some (by kernel_rfl))⟩
  t0 := Tryz.underlying0
  a0 := Tryz.isAgg0
  z0 := Tryz.sizeOf0
  v0 := Tryz.zeroValue0
  t3 := Tryz.underlying3
  a3 := Tryz.isAgg3
  z3 := Tryz.sizeOf3
  v3 := Tryz.zeroValue3
  t4 := Tryz.underlying4
  a4 := Tryz.isAgg4
  z4 := Tryz.sizeOf4
  v4 := Tryz.zeroValue4
  t22 := Tryz.underlying22
  a22 := Tryz.isAgg22
  z22 := Tryz.sizeOf22
  v22 := Tryz.zeroValue22
  t23 := Tryz.underlying3
  a23 := Tryz.isAgg3
  z23 := Tryz.sizeOf3
  v23 := Tryz.zeroValue3 }
end Go.Proofs

namespace Go.Wd
set_option linter.unusedVariables false
open Go.Am Go.Wc
section
variable {a b d : Dfa}
theorem least_len : ((leastZ d).getD []).length ≤ 1099511627776 := by
  unfold leastZ
  split
  · rename_i h
    have hd := valid_ok h
    have hn : d.n = d.next.length := rfl
    have hb := hd.1.2.1
    cases hl : leastP d with
    | none => exact Nat.zero_le _
    | some w =>
      have h1 := seek_word _ _ 0 _ w (fun q hq => by rw [List.mem_singleton.1 hq]; exact Nat.le_refl _) hl
      show w.length ≤ _
      omega
  · exact Nat.zero_le _
theorem rdiff_z (h1 : validD a = true) (h2 : validD b = true) (h3 : a.size = b.size) (hn : a.n * b.n ≤ 2048) : differZ a b = pickW (leastZ (prodP (ft false) a (notZ b))) (leastZ (prodP (ft false) (notZ a) b)) := by
  have ha := valid_ok h1
  have hb := valid_ok h2
  have hk : a.k = b.k := by unfold Dfa.k; rw [h3]
  obtain ⟨ga, ga2, ga3⟩ := not_ok ha
  obtain ⟨gb, gb2, gb3⟩ := not_ok hb
  have na : (notP a).n ≤ a.n := (minP_ok (flip_ok ha)).2
  have nb : (notP b).n ≤ b.n := (minP_ok (flip_ok hb)).2
  have m1 : a.n * (notP b).n ≤ 2048 := Nat.le_trans (Nat.mul_le_mul_left _ nb) hn
  have m2 : (notP a).n * b.n ≤ 2048 := Nat.le_trans (Nat.mul_le_mul_right _ na) hn
  have x1 := (prod_ok (f := fun x y => x && y) ha gb (by omega) m1).1
  have y1 := (prod_ok (f := fun x y => x && y) ga hb (by omega) m2).1
  rw [differZ_t h1 h2 h3, ← rdiff_eq ha hb h3 hn, show notZ b = notP b from if_pos h2, show notZ a = notP a from if_pos h1, ft_and]
  rw [show prodP andB a (notP b) = prodP (fun x y => x && y) a (notP b) from rfl, show prodP andB (notP a) b = prodP (fun x y => x && y) (notP a) b from rfl, leastZ_t (ok_valid x1), leastZ_t (ok_valid y1)]; rfl
theorem not_facts (h1 : validD a = true) : okD (notZ a) ∧ (notZ a).size = a.size ∧ (notZ a).k = a.k ∧ (notZ a).n ≤ a.n := by
  have ha := valid_ok h1
  obtain ⟨ga, ga2, ga3⟩ := not_ok ha
  rw [show notZ a = notP a from if_pos h1]
  exact ⟨ga, ga2, ga3, (minP_ok (flip_ok ha)).2⟩
end
theorem pick_v {v w : Option (List Nat)} (h : v.isSome = true) (g : w.isSome = false ∨ ahd (v.getD []) (w.getD []) = true) : pickW v w = v := by
  cases v with
  | none => cases h
  | some v =>
    cases w with
    | none => rfl
    | some w =>
      rcases g with g | g
      · cases g
      · exact if_pos g
theorem pick_w {v w : Option (List Nat)} (g : v.isSome = false ∨ (w.isSome = true ∧ ahd (v.getD []) (w.getD []) = false)) : pickW v w = w := by
  cases v with
  | none => rfl
  | some v =>
    cases w with
    | none => rcases g with g | g; cases g; cases g.1
    | some w =>
      rcases g with g | g
      · cases g
      · exact if_neg (by rw [show ahead v w = false from g.2]; decide)
end Go.Wd
namespace Go.Wd
theorem least_small {d : Dfa} : ((leastZ d).getD []).length ≤ 4611686018427387904 := Nat.le_trans least_len (by decide)
theorem differ_small {A X : Dfa} (hm : A.next.length * X.next.length ≤ 2048) : ((differZ A X).getD []).length ≤ 4611686018427387904 := by
  unfold differZ
  split
  · cases hd : diffP A X with
    | none => exact Nat.zero_le _
    | some w =>
      have h1 := seek_word _ _ 0 _ w (fun q hq => by rw [List.mem_singleton.1 hq]; exact Nat.le_refl _) hd
      have h2 : A.n * X.n ≤ 2048 := hm
      show w.length ≤ _
      omega
  · exact Nat.zero_le _
end Go.Wd

namespace Go.Am
open Go.RowKit
set_option linter.unusedVariables false
section
variable {P : Program} {w0 : Fr} {M0 : Nat → Prop} {ops : Array Oper}
def keyOk (t' : Nat) : SV → Bool
  | .v .vw _ => false
  | .v _ _ => true
  | .own j => !(Nat.beq j t')
  | _ => false
theorem one_look {α : Type} {id i : Nat} {x y : α} (h : [(id, x)].lookup i = some y) : i = id ∧ y = x := by
  rw [lookup_cons'] at h
  split at h
  · rename_i e; simp only [Option.some.injEq] at h; exact ⟨e, h.symm⟩
  · simp at h
theorem one_self {α : Type} {id : Nat} {x : α} : [(id, x)].lookup id = some x := by rw [lookup_cons', if_pos rfl]
theorem lookup_filter_sub {p : SV → Bool} {X : List (Nat × SV)} {u : Nat} {d : SV} (hnd : Nodup X = true) (h : (X.filter fun q => p q.2).lookup u = some d) : X.lookup u = some d :=
  lookup_of_nodup X u d hnd (List.mem_filter.1 (lookup_mem h)).1
theorem imp_ren {n id t t' : Nat} {e : TypeId} {xs : List AV} {X : List (Nat × SV)} (hnd : Nodup X = true) (hn : ∀ u d, X.lookup u = some d → u < n) (hk : ∀ u d, X.lookup u = some d → u ≠ t → keyOk t' d = true) :
    Imp P w0 M0 ⟨n, ins t (.own id) (X.filter fun p => p.2.safe [id]), [(id, .arr e xs)]⟩ ⟨n, ins t (.own t') X, [(t', .arr e xs)]⟩ := by
  rintro a w ⟨E, hs⟩
  have hcur : ∀ (E' : Env), E' = { E with cur := fun i => if i = t' then E.cur id else E.cur i } → E'.cur t' = E.cur id := fun E' h => by rw [h]; simp
  generalize hE : ({ E with cur := fun i => if i = t' then E.cur id else E.cur i } : Env) = E'
  have hc := hcur E' hE.symm
  have hblk : E'.blk = E.blk := by rw [← hE]
  have hown : ∀ b, owned E' [(t', Ob.arr e xs)] b → owned E [(id, Ob.arr e xs)] b := fun b ⟨i, ob, h1, h2⟩ => by
    obtain ⟨rfl, rfl⟩ := one_look h1
    exact ⟨id, _, one_self, by simpa only [ownB, hc] using h2⟩
  refine ⟨E', hs.size, hs.defers, fun u d hu => ?_, fun i ob h => ?_, fun i ob i' ob' b h1 h2 _ _ => ?_, hs.wok.below, fun x hx => by rw [hblk]; exact hs.wok.pins x hx⟩
  · rw [lookup_ins] at hu
    split at hu
    · rename_i hut
      subst hut
      simp only [Option.some.injEq] at hu
      subst hu
      have h1 := hs.slots u (.own id) (by rw [lookup_ins, if_pos rfl])
      refine ⟨h1.1, fun e' xs' h => ?_⟩
      obtain ⟨_, h⟩ := one_look h
      rw [hc]
      exact h1.2 e xs one_self
    · rename_i hut
      refine ⟨hn u d hu, ?_⟩
      have hq := hk u d hu hut
      cases d with
      | v c d =>
        have hsafe : (SV.v c d).safe [id] = true := by cases c <;> first | rfl | (cases hq)
        have h1 := (hs.slots u (.v c d) (by rw [lookup_ins, if_neg hut]; exact lookup_keeps (fun e => e.safe [id]) X u _ hnd hu hsafe)).2
        exact Rep.weak h1 (clsM_mono hown c)
      | own j =>
        intro e' xs' h
        obtain ⟨h, _⟩ := one_look h
        subst h
        simp [keyOk] at hq
      | pel _ _ _ => cases hq
      | pbox _ _ => cases hq
      | omap _ => cases hq
      | vsl _ _ _ => cases hq
      | fn _ _ => cases hq
      | dead => cases hq
  · obtain ⟨rfl, rfl⟩ := one_look h
    obtain ⟨vals, h1, h2, h3⟩ := hs.wok.objs id _ one_self
    exact ⟨vals, by rw [hc]; exact h1, h2, fun j d hj => ⟨(h3 j d hj).1, (h3 j d hj).2.weak (clsM_mono hown .pl)⟩⟩
  · exact (one_look h1).1.trans (one_look h2).1.symm
theorem step_keyD {o : Oper} {f u v t t' id n : Nat} {ats : Array TypeId} {X G : List (Nat × SV)} {e : TypeId} {xs ys : List AV} {dd : AV} (ho : o.op = .call { callee := .value (.func f), args := #[.tmp u, .tmp v], argTypes := ats }) (hd : o.dst = some t) (hn : Nat.blt t n = true) (hnd : Nodup X = true)
    (hu : X.lookup u = some (.own id)) (hv : X.lookup v = some (.v .pl dd)) (h : CallO P f [.own 0, .v .pl dd] [(0, .arr e xs)] (.own 0) [(0, .arr e ys)]) (hGt : G.lookup t = some (.own t')) (hn' : ∀ u d, X.lookup u = some d → u < n) (hk : ∀ u d, X.lookup u = some d → u ≠ t → keyOk t' d = true) (hM0 : ∀ b, M0 b → b < w0.w.heap.size) :
    ∃ s', Step P w0 M0 o ⟨n, X, [(id, .arr e xs)]⟩ s' ∧ Imp P w0 M0 s' ⟨n, aftS G X o, [(t', .arr e ys)]⟩ := by
  refine ⟨_, step_callO (s := ⟨n, X, [(id, .arr e xs)]⟩) (t := t) (caps := []) (svs := [.own id, .v .pl dd]) [(0, id)] ho hd hn hnd rfl rfl ?_ h ⟨.inl rfl, .inl rfl, trivial⟩ ⟨one_self, trivial⟩ rfl rfl rfl rfl rfl hM0, ?_⟩
  · show evs ⟨n, X, _⟩ [.tmp u, .tmp v] = _
    unfold evs evs evs
    simp only [St.ev, hu, hv]
  · have e1 : aftS G X o = ins t (.own t') X := by unfold aftS; rw [hd]; simp only [hGt]
    rw [e1]
    have e2 : ((⟨n, X, [(id, .arr e xs)]⟩ : St).after [(0, id)] [(0, .arr e ys)]).put t ((SV.own 0).ren [(0, id)]) = ⟨n, ins t (.own id) (X.filter fun p => p.2.safe [id]), [(id, .arr e ys)]⟩ := by
      unfold St.after St.put
      simp [newO, idsO, rn, SV.ren, Ob.ren, lookup_cons']
    rw [e2]
    exact imp_ren hnd hn' hk
theorem all_lt {G : List (Nat × SV)} {n : Nat} (h : (G.all fun p => Nat.blt p.1 n) = true) {u : Nat} {d : SV} (hl : G.lookup u = some d) : u < n := by simpa using List.all_eq_true.1 h _ (lookup_mem hl)
theorem all_key {G : List (Nat × SV)} {t t' : Nat} (h : (G.all fun p => keyOk t' p.2 || Nat.beq p.1 t) = true) {u : Nat} {d : SV} (hl : G.lookup u = some d) (hne : u ≠ t) : keyOk t' d = true := by
  have := List.all_eq_true.1 h _ (lookup_mem hl)
  rw [Bool.or_eq_true] at this
  rcases this with h1 | h1
  · exact h1
  · exact absurd (Nat.eq_of_beq_eq_true h1) hne
def effH (a b c i : Nat) : Bool := Nat.beq i a || (Nat.beq i b || Nat.beq i c)
theorem code_drawH {id : Nat} {n : Nat} {s0 : List (Nat × SV)} {o1 om on o2 : List (Nat × Ob)} (a b c k : Nat) (G : List (Nat × SV)) {Q' : Exit → St → Prop} (hm : P.follows .mixedOrders = true) (hok : drawOk ops = true) (htl : phaseOk ops k = true) (hmid : midOkG ops n k (effH a b c) = true) (hks : Nat.ble k ops.size = true) (hck : Nat.blt c k = true)
    (hab : (ancs ops ops.size b).contains a = true) (hbc : (ancs ops ops.size c).contains b = true) (hac : (ancs ops ops.size c).contains a = true) (hne : (Nat.beq a b || (Nat.beq a c || Nat.beq b c)) = false)
    (hG : ∀ t d, (G.filter fun p => keepL ops k #[] p.1).lookup t = some d → s0.lookup t = some d) (hnd : Nodup G = true)
    (hset : ∀ i t, i < k → (ops[i]?).bind (·.dst) = some t → ∃ d, G.lookup t = some d)
    (hP : ∀ i o t d, i < k → i ≠ a → i ≠ b → i ≠ c → ops[i]? = some o → o.dst = some t → G.lookup t = some d → ∀ ob, Pure P w0 M0 o (restr ops o (St.ev ⟨n, G, ob⟩)) ob d)
    (hA : ∀ o X, ops[a]? = some o → Nodup X = true → (∀ t d, X.lookup t = some d → G.lookup t = some d) → (∀ t, t ∈ looks ops o → X.lookup t = G.lookup t) → ∃ s', Step P w0 M0 o ⟨n, X, o1⟩ s' ∧ Imp P w0 M0 s' ⟨n, aftS G X o, om⟩)
    (hB : ∀ o X, ops[b]? = some o → Nodup X = true → (∀ t d, X.lookup t = some d → G.lookup t = some d) → (∀ t, t ∈ looks ops o → X.lookup t = G.lookup t) → ∃ s', Step P w0 M0 o ⟨n, X, om⟩ s' ∧ Imp P w0 M0 s' ⟨n, aftS G X o, on⟩)
    (hC : ∀ o X, ops[c]? = some o → Nodup X = true → (∀ t d, X.lookup t = some d → G.lookup t = some d) → (∀ t, t ∈ looks ops o → X.lookup t = G.lookup t) → ∃ s', Step P w0 M0 o ⟨n, X, on⟩ s' ∧ Imp P w0 M0 s' ⟨n, aftS G X o, o2⟩)
    (hend : EndL P w0 M0 ops (fun s => ∃ s', Imp P w0 M0 s s' ∧ Q' .normal s') k ⟨n, G, o2⟩) : CodeOk P w0 M0 (.region id ops true) ⟨n, s0, o1⟩ Q' := by
  obtain ⟨hns, hsp⟩ := drawOk_spec hok
  have hlt : ∀ i o, ops[i]? = some o → ∀ j ∈ preds o, j < i := fun i o ho => (hsp i o ho).1
  have hks' := Nat.le_of_ble_eq_true hks
  have hck' : c < k := by simpa using hck
  simp only [Bool.or_eq_false_iff] at hne
  have nab : a ≠ b := fun e => by rw [e, Nat.beq_refl] at hne; cases hne.1
  have nac : a ≠ c := fun e => by rw [e, Nat.beq_refl] at hne; cases hne.2.1
  have nbc : b ≠ c := fun e => by rw [e, Nat.beq_refl] at hne; cases hne.2.2
  have hab' : a ∈ ancs ops ops.size b := List.contains_iff_mem.1 hab
  have hbc' : b ∈ ancs ops ops.size c := List.contains_iff_mem.1 hbc
  have hac' : a ∈ ancs ops ops.size c := List.contains_iff_mem.1 hac
  have down : ∀ {L : Array Bool} {i : Nat}, Closed ops L → L.size = ops.size → L.getD i false = true → ∀ j, j ∈ ancs ops ops.size i → L.getD j false = true := fun {L i} hc hsz hL j hj => by
    have hi : i < ops.size := by
      rcases Nat.lt_or_ge i ops.size with q | q
      · exact q
      · exfalso
        have : L.getD i false = false := by simp [show ¬ i < L.size by omega]
        rw [hL] at this; cases this
    have hio : ops[i]? = some ops[i] := Array.getElem?_eq_getElem hi
    exact ancs_listed hc ops.size i ops[i] hio (fun q hq => hc i _ hio hL q hq) hlt j hj
  have notyet : ∀ {L : Array Bool} {i j : Nat}, Closed ops L → L.size = ops.size → L.getD i false = false → i ∈ ancs ops ops.size j → L.getD j false = false := fun {L i j} hc hsz hL hj => by
    cases hq : L.getD j false with
    | false => rfl
    | true => have := down hc hsz hq i hj; rw [hL] at this; cases this
  let oL : Array Bool → List (Nat × Ob) := fun L => if L.getD c false then o2 else if L.getD b false then on else if L.getD a false then om else o1
  refine code_drawG (eff := effH a b c) (oL := oL) (o2 := o2) k G hm hok htl hmid hks hG hnd hset (fun L hL => ?_) (fun L hL => ?_) (fun L i o t d hL hc hanc hLi hik hef ho hd hGd => ?_) (fun L i o X hL hc hanc hLi hik hef ho hX hXG hXr => ?_) hend
  · simp only [oL]
    rw [if_neg (by rw [hL c]; decide), if_neg (by rw [hL b]; decide), if_neg (by rw [hL a]; decide)]
  · simp only [oL]
    rw [if_pos (hL c hck')]
  · simp only [effH, Bool.or_eq_false_iff] at hef
    have hia : i ≠ a := fun e => by rw [e, Nat.beq_refl] at hef; cases hef.1
    have hib : i ≠ b := fun e => by rw [e, Nat.beq_refl] at hef; cases hef.2.1
    have hic : i ≠ c := fun e => by rw [e, Nat.beq_refl] at hef; cases hef.2.2
    have his : i < ops.size := (Array.getElem?_eq_some_iff.1 ho).1
    refine ⟨hP i o t d hik hia hib hic ho hd hGd _, ?_⟩
    simp only [oL]
    rw [getD_set (by omega), if_neg (Ne.symm hic), getD_set (by omega), if_neg (Ne.symm hib), getD_set (by omega), if_neg (Ne.symm hia)]
  · have his : i < ops.size := (Array.getElem?_eq_some_iff.1 ho).1
    by_cases hic : i = c
    · subst hic
      have hLb : L.getD b false = true := hanc b hbc'
      have e1 : oL L = on := by simp only [oL]; rw [if_neg (by rw [hLi]; decide), if_pos hLb]
      have e2 : oL (L.setIfInBounds i true) = o2 := by simp only [oL]; rw [getD_set (by omega), if_pos rfl, if_pos rfl]
      rw [e1, e2]
      exact hC o X ho hX hXG hXr
    · by_cases hib : i = b
      · subst hib
        have hLa : L.getD a false = true := hanc a hab'
        have hLc := notyet hc hL hLi hbc'
        have e1 : oL L = om := by simp only [oL]; rw [if_neg (by rw [hLc]; decide), if_neg (by rw [hLi]; decide), if_pos hLa]
        have e2 : oL (L.setIfInBounds i true) = on := by simp only [oL]; rw [getD_set (by omega), if_neg (Ne.symm hic), if_neg (by rw [hLc]; decide), getD_set (by omega), if_pos rfl, if_pos rfl]
        rw [e1, e2]
        exact hB o X ho hX hXG hXr
      · have hia : i = a := by
          unfold effH at hef
          rw [Bool.or_eq_true, Bool.or_eq_true] at hef
          rcases hef with h | h | h
          · exact Nat.eq_of_beq_eq_true h
          · exact absurd (Nat.eq_of_beq_eq_true h) hib
          · exact absurd (Nat.eq_of_beq_eq_true h) hic
        subst hia
        have hLb := notyet hc hL hLi hab'
        have hLc := notyet hc hL hLi hac'
        have e1 : oL L = o1 := by simp only [oL]; rw [if_neg (by rw [hLc]; decide), if_neg (by rw [hLb]; decide), if_neg (by rw [hLi]; decide)]
        have e2 : oL (L.setIfInBounds i true) = om := by
          simp only [oL]
          rw [getD_set (by omega), if_neg (Ne.symm hic), if_neg (by rw [hLc]; decide), getD_set (by omega), if_neg (Ne.symm hib), if_neg (by rw [hLb]; decide), getD_set (by omega), if_pos rfl, if_pos rfl]
        rw [e1, e2]
        exact hA o X ho hX hXG hXr
theorem code_ren {n id t t' : Nat} {e : TypeId} {xs : List AV} {X : List (Nat × SV)} {y : Code} {Q : Exit → St → Prop} (hnd : Nodup X = true) (hX : X.lookup t = some (.own id)) (hn : ∀ u d, X.lookup u = some d → u < n) (hk : ∀ u d, X.lookup u = some d → u ≠ t → keyOk t' d = true) (hk2 : ∀ u d, X.lookup u = some d → u ≠ t → d.safe [id] = true)
    (h : CodeOk P w0 M0 y ⟨n, ins t (.own t') X, [(t', .arr e xs)]⟩ Q) : CodeOk P w0 M0 y ⟨n, X, [(id, .arr e xs)]⟩ Q :=
  CodeOk.imp (Imp.trans (imp_slots (s' := ⟨n, ins t (.own id) (X.filter fun p => p.2.safe [id]), [(id, .arr e xs)]⟩) rfl rfl fun u d hu => by
    have hu : (ins t (SV.own id) (X.filter fun p => p.2.safe [id])).lookup u = some d := hu
    show X.lookup u = some d
    rw [lookup_ins] at hu
    split at hu
    · rename_i e; subst e; rw [hX]; assumption
    · exact lookup_filter_sub hnd hu) (imp_ren hnd hn hk)) h
end
end Go.Am

