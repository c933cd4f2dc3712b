/-
  Plain functions: normal forms of sequences and repetitions.
-/
import Derived.Test.YtjimlkpfmbachaaJ20
import Derived.Shelf.SlicesG.Reverse
import Derived.Test.YtjimlkpfmbachaaJ18
import Derived.Test.YtjimlkpfmbachaaJ10
set_option linter.unusedVariables false
set_option linter.unusedSectionVars false
set_option linter.unusedSimpArgs false
namespace Go.Am
open Go.RowKit Go.Sort Go.Proofs
set_option linter.unusedVariables false
structure RevI (P : Program) (f : FuncId) : Prop where
  callable : Callable P f
  none : ∀ (p : Option Addr) (cap : Nat) (w : World), Calls P f #[.slice p 0 cap] w fun e w' => e = .returned (.tuple #[]) ∧ w' = w
  some : ∀ (blk off cap : Nat) (zs : List Int) (w : World) (hH : Holds (Value.int .i64) w blk off zs.toArray) (hblk : blk < w.heap.size) (hsz : zs.length < 4611686018427387904),
    Calls P f #[.slice (.some ⟨blk, off, .none⟩) zs.length cap] w fun e w' =>
      e = .returned (.tuple #[]) ∧ ∃ n os, w' = grow (putRow (Value.int .i64) (Sort.ahead w n) blk off (zs.reverse).toArray) os
section
variable {P : Program} {w0 : Fr} {M0 : Nat → Prop}
variable {o : Oper} {s : St} {x y : Operand} {T T' e : TypeId} {c : Cls} {id t : Nat}
theorem grow_none (w : World) : grow w #[] = w := by unfold grow; simp
theorem step_revI {l : List Int} {f : FuncId} {ats : Array TypeId} (hS : RevI P f) (ho : o.op = .call { callee := .value (.func f), args := #[x], argTypes := ats }) (hd : o.dst = some t) (hn : Nat.blt t s.n = true)
    (hnd : Nodup s.s = true) (hx : s.ev x = some (.own id)) (hl : s.o.lookup id = some (.arr e (l.map int))) (hk : szOf P e = some 1) (hsz : l.length < 4611686018427387904) (hM0 : ∀ b, M0 b → b < w0.w.heap.size) :
    Step P w0 M0 o s ((s.upd false id (.arr e ((l.reverse).map int))).put t (.v .pl (.tup []))) := by
  rintro a w Q ⟨E, hs⟩
  have hxv := hs.ev hx _ _ hl
  have hob := hs.wok.objs id _ hl
  obtain ⟨vals, ⟨hown, hownF⟩, hcl, hrp⟩ := hob
  have hck := cellsOf_of hk
  have hxl : (l.map int).length = l.length := by simp
  have hvals : vals = l.map (Value.int .i64) := by
    apply List.ext_getElem?
    intro j
    have hlen : vals.length = l.length := by have := hown.1; rw [hck] at this; simpa using this
    rcases Nat.lt_or_ge j l.length with hj | hj
    · have h2 := (hrp j (.sc (.int .i64 l[j])) (by rw [show l.map int = l.map fun z => AV.sc (Value.int .i64 z) from rfl, flat_sv, List.getElem?_map, List.getElem?_eq_getElem hj]; rfl)).2
      rw [List.getD_eq_getElem?_getD, List.getElem?_eq_getElem (by omega), Option.getD_some] at h2
      rw [List.getElem?_eq_getElem (by omega), List.getElem?_map, List.getElem?_eq_getElem hj, Option.map_some]
      congr 1
      generalize vals[j] = u at h2 ⊢
      cases h2; rfl
    · rw [List.getElem?_eq_none (by omega), List.getElem?_eq_none (by simpa using hj)]
  have hrun : (execOp a.eval o).run P w = .ok (.enter f #[E.cur id]) w := by
    have := run_call (P := P) (ev := a.eval) (w := w) (caps := #[]) ho rfl hS.callable
    simpa [hxv] using this
  unfold Oper.wp
  rw [hrun]
  simp only [Oper.upon]
  rcases hown.2 with ⟨hv, hn0⟩ | ⟨gb, cap, cur, hv, hgb, hh, hnc', hcm, hcs, htake⟩
  · -- nothing to sort
    have hl0 : l = [] := List.eq_nil_of_length_eq_zero (by simpa using hn0)
    rw [hv]
    refine (hS.none none 0 w).mono fun e' w' ⟨he, hw⟩ => ?_
    subst he; subst hw
    simp only [hd]
    refine ⟨E, SimE.put ?_ (by simpa [St.upd] using hn) (Rep.tup [] [] rfl (fun j d hd => by simp at hd))⟩
    refine hs.upd false (fun _ => ⟨rfl, .inl ⟨e, _, _, hl, rfl, by simp⟩⟩) hnd hM0 (fun i hi => ⟨rfl, rfl⟩) (.inr rfl) none ⟨rfl, rfl, rfl, Nat.le_refl _, fun _ _ _ => rfl⟩ (fun _ => Nat.le_refl _) (fun g hg' => by cases hg') (fun b hb => .inl ⟨_, hl, hb⟩) (fun rep sv => ?_)
    subst hl0
    simp only [List.reverse_nil, List.map_nil]
    refine ⟨[], ⟨⟨by simp, .inl ⟨hv, rfl⟩⟩, hownF⟩, fun x hx => (by cases hx), fun j d hd => (by simp [flat] at hd)⟩
  · rw [hxl] at hv hnc' htake
    rw [hck, Nat.mul_one] at hcs
    rw [hck, Nat.mul_one, hvals] at htake
    rcases Nat.eq_zero_or_pos l.length with hl0 | hpos
    · -- nothing to sort, with room behind
      have hl0 : l = [] := List.eq_nil_of_length_eq_zero hl0
      rw [hv, hl0]
      refine (hS.none _ cap w).mono fun e' w' ⟨he, hw⟩ => ?_
      subst he; subst hw
      simp only [hd]
      refine ⟨E, SimE.put ?_ (by simpa [St.upd] using hn) (Rep.tup [] [] rfl (fun j d hd => by simp at hd))⟩
      refine hs.upd false (fun _ => ⟨rfl, .inl ⟨e, _, _, hl, rfl, by simp [hl0]⟩⟩) hnd hM0 (fun i hi => ⟨rfl, rfl⟩) (.inr rfl) none ⟨rfl, rfl, rfl, Nat.le_refl _, fun _ _ _ => rfl⟩ (fun _ => Nat.le_refl _) (fun g hg' => by cases hg') (fun b hb => .inl ⟨_, hl, hb⟩) (fun rep sv => ?_)
      simp only [List.reverse_nil, List.map_nil]
      refine ⟨[], ⟨⟨by simp, .inr ⟨gb, cap, cur, by rw [hv, hl0]; rfl, hgb, hh, Nat.zero_le _, hcm, by rw [hck, Nat.mul_one]; exact hcs, by simp⟩⟩, hownF⟩, fun x hx => (by cases hx), fun j d hd => (by simp [flat] at hd)⟩
    · have hblk : gb < w.heap.size := (Array.getElem?_eq_some_iff.1 hh).1
      have hcurj : ∀ j (hj : j < l.length), cur[j]? = some (Value.int .i64 l[j]) := fun j hj => by
        have : (cur.toList.take l.length)[j]? = some (Value.int .i64 l[j]) := by rw [htake, List.getElem?_map, List.getElem?_eq_getElem hj]; rfl
        rw [List.getElem?_take, if_pos hj, Array.getElem?_toList] at this
        exact this
      have hH : Holds (Value.int .i64) w gb 0 l.toArray := by
        intro j hj
        have hj' : j < l.length := by simpa using hj
        refine ⟨?_, ?_⟩
        · simp only [World.cell?, hh, Nat.zero_add]
          rw [getElem!_pos l.toArray j hj]
          simpa using hcurj j hj'
        · simp only [World.frozen?, hh]
          simp
      have hcall := hS.some gb 0 cap l w hH hblk hsz
      rw [hv]
      refine hcall.mono fun e' w' ⟨he, n, os, hw⟩ => ?_
      subst he
      simp only [hd]
      generalize hml : (l.reverse) = ml at hw
      have hmll : ml.length = l.length := by rw [← hml]; simp
      have hw' : w' = sortWorld (Value.int .i64) w gb 0 n ml.toArray os := hw
      have hdrawn : w.drawn ≤ w'.drawn := by rw [hw']; simp [sortWorld, grow, putRow, mapBlock, Sort.ahead]
      have hgr : w.grownBy w' (some gb) := by
        rw [hw']
        exact ⟨rfl, rfl, rfl, by rw [sortWorld_size]; omega, fun k hk hne => sortWorld_other _ _ _ _ _ _ (fun he => hne (by rw [he])) hk⟩
      have hhw : w'.heap[gb]? = some (.cells (putCells (Value.int .i64) 0 ml.toArray cur) e (0, 0)) := by
        have := sortWorld_same (enc := Value.int .i64) w gb n ml.toArray os (off := 0) hh
        rw [hw']; exact this
      refine ⟨E, SimE.put ?_ (by simpa [St.upd] using hn) (Rep.tup [] [] rfl (fun j d hd => by simp at hd))⟩
      refine hs.upd false (fun _ => ⟨rfl, .inl ⟨e, _, _, hl, rfl, by simp [hmll]⟩⟩) hnd hM0 (fun i hi => ⟨rfl, rfl⟩) (.inr rfl) (some gb) hgr (fun _ => hdrawn) (fun g' hg' => ⟨_, hl, by simp only [Option.some.injEq] at hg'; subst hg'; simp only [ownB, hv, Value.ownBlock]⟩) (fun b hb => .inl ⟨_, hl, hb⟩) (fun rep sv => ?_)
      refine ⟨ml.map (Value.int .i64), ⟨⟨by rw [hck]; simp, .inr ⟨gb, cap, _, by rw [hv]; simp [hmll], hgb, hhw, by simpa [hmll] using hnc', hcm, by rw [hck, Nat.mul_one]; simpa [putCells] using hcs, ?_⟩⟩, hownF⟩, ?_, fun j d' hd' => ?_⟩
      · rw [hck]
        apply List.ext_getElem?
        intro j
        simp only [List.length_map, Nat.mul_one, hmll]
        rw [List.getElem?_take]
        by_cases hj : j < l.length
        · rw [if_pos hj, Array.getElem?_toList]
          simp only [putCells, Array.getElem?_mapIdx, hcurj j hj, Option.map_some, Nat.zero_le, true_and, Nat.zero_add, List.size_toArray, hmll, hj, if_true, Nat.sub_zero]
          rw [List.getElem?_map, List.getElem?_eq_getElem (by omega), Option.map_some, getElem!_pos ml.toArray j (by simp; omega)]
          simp
        · rw [if_neg hj, List.getElem?_eq_none (by simp; omega)]
      · intro x hx
        rw [List.mem_map] at hx
        obtain ⟨z, _, rfl⟩ := hx
        rw [hck]; rfl
      · rw [show ml.map int = ml.map fun z => AV.sc (Value.int .i64 z) from rfl, flat_sv, List.getElem?_map, Option.map_eq_some_iff] at hd'
        obtain ⟨z, hz, rfl⟩ := hd'
        refine ⟨rfl, ?_⟩
        rw [List.getD_eq_getElem?_getD, List.getElem?_map, hz]
        exact .sc _ rfl
end
end Go.Am

namespace Go.Am
open Go.RowKit
set_option linter.unusedVariables false
section
variable {P : Program} {w0 : Fr} {M0 : Nat → Prop} {s : St}
theorem imp_nilownC (b j K : Nat) (e eb : TypeId) {c : Cls} {cs : List SV} (hM0 : ∀ b, M0 b → b < w0.w.heap.size) (hnd : Nodup s.s = true) (hb : (s.upd true K (.arr e [])).o.lookup b = some (.box eb cs)) (hj : cs[j]? = some (.v c (.sc (.slice none 0 0))))
    (hnd' : Nodup (s.upd true K (.arr e [])).s = true) : Imp P w0 M0 s ((s.upd true K (.arr e [])).upd false b (.box eb ((keepC b cs).set j (.own K)))) := by
  rintro a w ⟨E, hs⟩
  have h1 := hs.newArr (t := K) (e := e) (xs := []) (v := .slice none 0 0) hnd hM0 (w' := w) ⟨rfl, rfl, rfl, Nat.le_refl _, fun _ _ _ => rfl⟩ (fun _ => Nat.le_refl _) (vals := []) (World.ownsRow_nil w _ _ _) (fun b hb => by cases hb) (fun x hx => by cases hx) (fun j d hd => by simp [flat] at hd)
  generalize hE1 : ({ E with cur := fun i => if i = K then .slice none 0 0 else E.cur i } : Env) = E1 at h1
  have hc : E1.cur K = .slice none 0 0 := by rw [← hE1]; simp
  refine ⟨E1, h1.upd false (fun _ => ⟨rfl, .inr (.inl ⟨eb, cs, _, hb, rfl⟩)⟩) hnd' hM0 (fun i hi => ⟨rfl, rfl⟩) (.inr rfl) none ⟨rfl, rfl, rfl, Nat.le_refl _, fun _ _ _ => rfl⟩ (fun _ => Nat.le_refl _) (fun g hg => by cases hg) (fun b' hb' => .inl ⟨_, hb, hb'⟩) (fun rep sv => ?_)⟩
  obtain ⟨vals, g1, g2, g3, g4⟩ := h1.wok.objs b _ hb
  refine ⟨vals, g1, g2, by simpa [keepC] using g3, fun i d hd => ?_⟩
  by_cases hi : j = i
  · subst hi
    have hjl : j < cs.length := (List.getElem?_eq_some_iff.1 hj).1
    rw [List.getElem?_set_self (by simpa [keepC] using hjl)] at hd
    simp only [Option.some.injEq] at hd
    subst hd
    have := g4 j _ hj
    refine ⟨rfl, this.2.1, fun e' xs' _ => ?_⟩
    rw [hc]
    have h5 : Rep w _ (vals.getD j undef) (.sc (.slice none 0 0)) := this.2.2
    generalize vals.getD j undef = u at h5 ⊢
    cases h5; rfl
  · rw [List.getElem?_set_ne hi] at hd
    simp only [keepC, List.getElem?_map, Option.map_eq_some_iff] at hd
    obtain ⟨d0, hd0, rfl⟩ := hd
    have := g4 i d0 hd0
    split
    · exact ⟨this.1, this.2.1, sv _ _ this.2.2 ‹_›⟩
    · exact ⟨rfl, this.2.1, trivial⟩
theorem code_nilownC {y : Code} {Q : Exit → St → Prop} (b j K : Nat) (e eb : TypeId) {c : Cls} {cs : List SV} (hM0 : ∀ b, M0 b → b < w0.w.heap.size) (hnd : Nodup s.s = true) (hb : (s.upd true K (.arr e [])).o.lookup b = some (.box eb cs)) (hj : cs[j]? = some (.v c (.sc (.slice none 0 0))))
    (hnd' : Nodup (s.upd true K (.arr e [])).s = true) (h : CodeOk P w0 M0 y ((s.upd true K (.arr e [])).upd false b (.box eb ((keepC b cs).set j (.own K)))) Q) : CodeOk P w0 M0 y s Q :=
  CodeOk.imp (imp_nilownC b j K e eb hM0 hnd hb hj hnd') h
end
end Go.Am

namespace Go.Am
open Go.RowKit
set_option linter.unusedVariables false
section
variable {P : Program} {w0 : Fr} {M0 : Nat → Prop} {ops : Array Oper}
def keyOk (t' : Nat) : SV → Bool
  | .v .vw _ => false
  | .v _ _ => true
  | .own j => !(Nat.beq j t')
  | _ => false
theorem one_look {α : Type} {id i : Nat} {x y : α} (h : [(id, x)].lookup i = some y) : i = id ∧ y = x := by
  rw [lookup_cons'] at h
  split at h
  · rename_i e; simp only [Option.some.injEq] at h; exact ⟨e, h.symm⟩
  · simp at h
theorem one_self {α : Type} {id : Nat} {x : α} : [(id, x)].lookup id = some x := by rw [lookup_cons', if_pos rfl]
theorem lookup_filter_sub {p : SV → Bool} {X : List (Nat × SV)} {u : Nat} {d : SV} (hnd : Nodup X = true) (h : (X.filter fun q => p q.2).lookup u = some d) : X.lookup u = some d :=
  lookup_of_nodup X u d hnd (List.mem_filter.1 (lookup_mem h)).1
theorem imp_ren {n id t t' : Nat} {e : TypeId} {xs : List AV} {X : List (Nat × SV)} (hnd : Nodup X = true) (hn : ∀ u d, X.lookup u = some d → u < n) (hk : ∀ u d, X.lookup u = some d → u ≠ t → keyOk t' d = true) :
    Imp P w0 M0 ⟨n, ins t (.own id) (X.filter fun p => p.2.safe [id]), [(id, .arr e xs)]⟩ ⟨n, ins t (.own t') X, [(t', .arr e xs)]⟩ := by
  rintro a w ⟨E, hs⟩
  have hcur : ∀ (E' : Env), E' = { E with cur := fun i => if i = t' then E.cur id else E.cur i } → E'.cur t' = E.cur id := fun E' h => by rw [h]; simp
  generalize hE : ({ E with cur := fun i => if i = t' then E.cur id else E.cur i } : Env) = E'
  have hc := hcur E' hE.symm
  have hblk : E'.blk = E.blk := by rw [← hE]
  have hown : ∀ b, owned E' [(t', Ob.arr e xs)] b → owned E [(id, Ob.arr e xs)] b := fun b ⟨i, ob, h1, h2⟩ => by
    obtain ⟨rfl, rfl⟩ := one_look h1
    exact ⟨id, _, one_self, by simpa only [ownB, hc] using h2⟩
  refine ⟨E', hs.size, hs.defers, fun u d hu => ?_, fun i ob h => ?_, fun i ob i' ob' b h1 h2 _ _ => ?_, hs.wok.below, fun x hx => by rw [hblk]; exact hs.wok.pins x hx⟩
  · rw [lookup_ins] at hu
    split at hu
    · rename_i hut
      subst hut
      simp only [Option.some.injEq] at hu
      subst hu
      have h1 := hs.slots u (.own id) (by rw [lookup_ins, if_pos rfl])
      refine ⟨h1.1, fun e' xs' h => ?_⟩
      obtain ⟨_, h⟩ := one_look h
      rw [hc]
      exact h1.2 e xs one_self
    · rename_i hut
      refine ⟨hn u d hu, ?_⟩
      have hq := hk u d hu hut
      cases d with
      | v c d =>
        have hsafe : (SV.v c d).safe [id] = true := by cases c <;> first | rfl | (cases hq)
        have h1 := (hs.slots u (.v c d) (by rw [lookup_ins, if_neg hut]; exact lookup_keeps (fun e => e.safe [id]) X u _ hnd hu hsafe)).2
        exact Rep.weak h1 (clsM_mono hown c)
      | own j =>
        intro e' xs' h
        obtain ⟨h, _⟩ := one_look h
        subst h
        simp [keyOk] at hq
      | pel _ _ _ => cases hq
      | pbox _ _ => cases hq
      | omap _ => cases hq
      | vsl _ _ _ => cases hq
      | fn _ _ => cases hq
      | dead => cases hq
  · obtain ⟨rfl, rfl⟩ := one_look h
    obtain ⟨vals, h1, h2, h3⟩ := hs.wok.objs id _ one_self
    exact ⟨vals, by rw [hc]; exact h1, h2, fun j d hj => ⟨(h3 j d hj).1, (h3 j d hj).2.weak (clsM_mono hown .pl)⟩⟩
  · exact (one_look h1).1.trans (one_look h2).1.symm
theorem step_keyD {o : Oper} {f u v t t' id n : Nat} {ats : Array TypeId} {X G : List (Nat × SV)} {e : TypeId} {xs ys : List AV} {dd : AV} (ho : o.op = .call { callee := .value (.func f), args := #[.tmp u, .tmp v], argTypes := ats }) (hd : o.dst = some t) (hn : Nat.blt t n = true) (hnd : Nodup X = true)
    (hu : X.lookup u = some (.own id)) (hv : X.lookup v = some (.v .pl dd)) (h : CallO P f [.own 0, .v .pl dd] [(0, .arr e xs)] (.own 0) [(0, .arr e ys)]) (hGt : G.lookup t = some (.own t')) (hn' : ∀ u d, X.lookup u = some d → u < n) (hk : ∀ u d, X.lookup u = some d → u ≠ t → keyOk t' d = true) (hM0 : ∀ b, M0 b → b < w0.w.heap.size) :
    ∃ s', Step P w0 M0 o ⟨n, X, [(id, .arr e xs)]⟩ s' ∧ Imp P w0 M0 s' ⟨n, aftS G X o, [(t', .arr e ys)]⟩ := by
  refine ⟨_, step_callO (s := ⟨n, X, [(id, .arr e xs)]⟩) (t := t) (caps := []) (svs := [.own id, .v .pl dd]) [(0, id)] ho hd hn hnd rfl rfl ?_ h ⟨.inl rfl, .inl rfl, trivial⟩ ⟨one_self, trivial⟩ rfl rfl rfl rfl rfl hM0, ?_⟩
  · show evs ⟨n, X, _⟩ [.tmp u, .tmp v] = _
    unfold evs evs evs
    simp only [St.ev, hu, hv]
  · have e1 : aftS G X o = ins t (.own t') X := by unfold aftS; rw [hd]; simp only [hGt]
    rw [e1]
    have e2 : ((⟨n, X, [(id, .arr e xs)]⟩ : St).after [(0, id)] [(0, .arr e ys)]).put t ((SV.own 0).ren [(0, id)]) = ⟨n, ins t (.own id) (X.filter fun p => p.2.safe [id]), [(id, .arr e ys)]⟩ := by
      unfold St.after St.put
      simp [newO, idsO, rn, SV.ren, Ob.ren, lookup_cons']
    rw [e2]
    exact imp_ren hnd hn' hk
theorem all_lt {G : List (Nat × SV)} {n : Nat} (h : (G.all fun p => Nat.blt p.1 n) = true) {u : Nat} {d : SV} (hl : G.lookup u = some d) : u < n := by simpa using List.all_eq_true.1 h _ (lookup_mem hl)
theorem all_key {G : List (Nat × SV)} {t t' : Nat} (h : (G.all fun p => keyOk t' p.2 || Nat.beq p.1 t) = true) {u : Nat} {d : SV} (hl : G.lookup u = some d) (hne : u ≠ t) : keyOk t' d = true := by
  have := List.all_eq_true.1 h _ (lookup_mem hl)
  rw [Bool.or_eq_true] at this
  rcases this with h1 | h1
  · exact h1
  · exact absurd (Nat.eq_of_beq_eq_true h1) hne
def effH (a b c i : Nat) : Bool := Nat.beq i a || (Nat.beq i b || Nat.beq i c)
theorem code_drawH {id : Nat} {n : Nat} {s0 : List (Nat × SV)} {o1 om on o2 : List (Nat × Ob)} (a b c k : Nat) (G : List (Nat × SV)) {Q' : Exit → St → Prop} (hm : P.follows .mixedOrders = true) (hok : drawOk ops = true) (htl : phaseOk ops k = true) (hmid : midOkG ops n k (effH a b c) = true) (hks : Nat.ble k ops.size = true) (hck : Nat.blt c k = true)
    (hab : (ancs ops ops.size b).contains a = true) (hbc : (ancs ops ops.size c).contains b = true) (hac : (ancs ops ops.size c).contains a = true) (hne : (Nat.beq a b || (Nat.beq a c || Nat.beq b c)) = false)
    (hG : ∀ t d, (G.filter fun p => keepL ops k #[] p.1).lookup t = some d → s0.lookup t = some d) (hnd : Nodup G = true)
    (hset : ∀ i t, i < k → (ops[i]?).bind (·.dst) = some t → ∃ d, G.lookup t = some d)
    (hP : ∀ i o t d, i < k → i ≠ a → i ≠ b → i ≠ c → ops[i]? = some o → o.dst = some t → G.lookup t = some d → ∀ ob, Pure P w0 M0 o (restr ops o (St.ev ⟨n, G, ob⟩)) ob d)
    (hA : ∀ o X, ops[a]? = some o → Nodup X = true → (∀ t d, X.lookup t = some d → G.lookup t = some d) → (∀ t, t ∈ looks ops o → X.lookup t = G.lookup t) → ∃ s', Step P w0 M0 o ⟨n, X, o1⟩ s' ∧ Imp P w0 M0 s' ⟨n, aftS G X o, om⟩)
    (hB : ∀ o X, ops[b]? = some o → Nodup X = true → (∀ t d, X.lookup t = some d → G.lookup t = some d) → (∀ t, t ∈ looks ops o → X.lookup t = G.lookup t) → ∃ s', Step P w0 M0 o ⟨n, X, om⟩ s' ∧ Imp P w0 M0 s' ⟨n, aftS G X o, on⟩)
    (hC : ∀ o X, ops[c]? = some o → Nodup X = true → (∀ t d, X.lookup t = some d → G.lookup t = some d) → (∀ t, t ∈ looks ops o → X.lookup t = G.lookup t) → ∃ s', Step P w0 M0 o ⟨n, X, on⟩ s' ∧ Imp P w0 M0 s' ⟨n, aftS G X o, o2⟩)
    (hend : EndL P w0 M0 ops (fun s => ∃ s', Imp P w0 M0 s s' ∧ Q' .normal s') k ⟨n, G, o2⟩) : CodeOk P w0 M0 (.region id ops true) ⟨n, s0, o1⟩ Q' := by
  obtain ⟨hns, hsp⟩ := drawOk_spec hok
  have hlt : ∀ i o, ops[i]? = some o → ∀ j ∈ preds o, j < i := fun i o ho => (hsp i o ho).1
  have hks' := Nat.le_of_ble_eq_true hks
  have hck' : c < k := by simpa using hck
  simp only [Bool.or_eq_false_iff] at hne
  have nab : a ≠ b := fun e => by rw [e, Nat.beq_refl] at hne; cases hne.1
  have nac : a ≠ c := fun e => by rw [e, Nat.beq_refl] at hne; cases hne.2.1
  have nbc : b ≠ c := fun e => by rw [e, Nat.beq_refl] at hne; cases hne.2.2
  have hab' : a ∈ ancs ops ops.size b := List.contains_iff_mem.1 hab
  have hbc' : b ∈ ancs ops ops.size c := List.contains_iff_mem.1 hbc
  have hac' : a ∈ ancs ops ops.size c := List.contains_iff_mem.1 hac
  have down : ∀ {L : Array Bool} {i : Nat}, Closed ops L → L.size = ops.size → L.getD i false = true → ∀ j, j ∈ ancs ops ops.size i → L.getD j false = true := fun {L i} hc hsz hL j hj => by
    have hi : i < ops.size := by
      rcases Nat.lt_or_ge i ops.size with q | q
      · exact q
      · exfalso
        have : L.getD i false = false := by simp [show ¬ i < L.size by omega]
        rw [hL] at this; cases this
    have hio : ops[i]? = some ops[i] := Array.getElem?_eq_getElem hi
    exact ancs_listed hc ops.size i ops[i] hio (fun q hq => hc i _ hio hL q hq) hlt j hj
  have notyet : ∀ {L : Array Bool} {i j : Nat}, Closed ops L → L.size = ops.size → L.getD i false = false → i ∈ ancs ops ops.size j → L.getD j false = false := fun {L i j} hc hsz hL hj => by
    cases hq : L.getD j false with
    | false => rfl
    | true => have := down hc hsz hq i hj; rw [hL] at this; cases this
  let oL : Array Bool → List (Nat × Ob) := fun L => if L.getD c false then o2 else if L.getD b false then on else if L.getD a false then om else o1
  refine code_drawG (eff := effH a b c) (oL := oL) (o2 := o2) k G hm hok htl hmid hks hG hnd hset (fun L hL => ?_) (fun L hL => ?_) (fun L i o t d hL hc hanc hLi hik hef ho hd hGd => ?_) (fun L i o X hL hc hanc hLi hik hef ho hX hXG hXr => ?_) hend
  · simp only [oL]
    rw [if_neg (by rw [hL c]; decide), if_neg (by rw [hL b]; decide), if_neg (by rw [hL a]; decide)]
  · simp only [oL]
    rw [if_pos (hL c hck')]
  · simp only [effH, Bool.or_eq_false_iff] at hef
    have hia : i ≠ a := fun e => by rw [e, Nat.beq_refl] at hef; cases hef.1
    have hib : i ≠ b := fun e => by rw [e, Nat.beq_refl] at hef; cases hef.2.1
    have hic : i ≠ c := fun e => by rw [e, Nat.beq_refl] at hef; cases hef.2.2
    have his : i < ops.size := (Array.getElem?_eq_some_iff.1 ho).1
    refine ⟨hP i o t d hik hia hib hic ho hd hGd _, ?_⟩
    simp only [oL]
    rw [getD_set (by omega), if_neg (Ne.symm hic), getD_set (by omega), if_neg (Ne.symm hib), getD_set (by omega), if_neg (Ne.symm hia)]
  · have his : i < ops.size := (Array.getElem?_eq_some_iff.1 ho).1
    by_cases hic : i = c
    · subst hic
      have hLb : L.getD b false = true := hanc b hbc'
      have e1 : oL L = on := by simp only [oL]; rw [if_neg (by rw [hLi]; decide), if_pos hLb]
      have e2 : oL (L.setIfInBounds i true) = o2 := by simp only [oL]; rw [getD_set (by omega), if_pos rfl, if_pos rfl]
      rw [e1, e2]
      exact hC o X ho hX hXG hXr
    · by_cases hib : i = b
      · subst hib
        have hLa : L.getD a false = true := hanc a hab'
        have hLc := notyet hc hL hLi hbc'
        have e1 : oL L = om := by simp only [oL]; rw [if_neg (by rw [hLc]; decide), if_neg (by rw [hLi]; decide), if_pos hLa]
        have e2 : oL (L.setIfInBounds i true) = on := by simp only [oL]; rw [getD_set (by omega), if_neg (Ne.symm hic), if_neg (by rw [hLc]; decide), getD_set (by omega), if_pos rfl, if_pos rfl]
        rw [e1, e2]
        exact hB o X ho hX hXG hXr
      · have hia : i = a := by
          unfold effH at hef
          rw [Bool.or_eq_true, Bool.or_eq_true] at hef
          rcases hef with h | h | h
          · exact Nat.eq_of_beq_eq_true h
          · exact absurd (Nat.eq_of_beq_eq_true h) hib
          · exact absurd (Nat.eq_of_beq_eq_true h) hic
        subst hia
        have hLb := notyet hc hL hLi hab'
        have hLc := notyet hc hL hLi hac'
        have e1 : oL L = o1 := by simp only [oL]; rw [if_neg (by rw [hLc]; decide), if_neg (by rw [hLb]; decide), if_neg (by rw [hLi]; decide)]
        have e2 : oL (L.setIfInBounds i true) = om := by
          simp only [oL]
          rw [getD_set (by omega), if_neg (Ne.symm hic), if_neg (by rw [hLc]; decide), getD_set (by omega), if_neg (Ne.symm hib), if_neg (by rw [hLb]; decide), getD_set (by omega), if_pos rfl, if_pos rfl]
        rw [e1, e2]
        exact hA o X ho hX hXG hXr
theorem code_ren {n id t t' : Nat} {e : TypeId} {xs : List AV} {X : List (Nat × SV)} {y : Code} {Q : Exit → St → Prop} (hnd : Nodup X = true) (hX : X.lookup t = some (.own id)) (hn : ∀ u d, X.lookup u = some d → u < n) (hk : ∀ u d, X.lookup u = some d → u ≠ t → keyOk t' d = true) (hk2 : ∀ u d, X.lookup u = some d → u ≠ t → d.safe [id] = true)
    (h : CodeOk P w0 M0 y ⟨n, ins t (.own t') X, [(t', .arr e xs)]⟩ Q) : CodeOk P w0 M0 y ⟨n, X, [(id, .arr e xs)]⟩ Q :=
  CodeOk.imp (Imp.trans (imp_slots (s' := ⟨n, ins t (.own id) (X.filter fun p => p.2.safe [id]), [(id, .arr e xs)]⟩) rfl rfl fun u d hu => by
    have hu : (ins t (SV.own id) (X.filter fun p => p.2.safe [id])).lookup u = some d := hu
    show X.lookup u = some d
    rw [lookup_ins] at hu
    split at hu
    · rename_i e; subst e; rw [hX]; assumption
    · exact lookup_filter_sub hnd hu) (imp_ren hnd hn hk)) h
end
end Go.Am

namespace Go.Wb
open Go.Am
abbrev noneRx : Rx := .mk 0 [] []
abbrev emptyRx : Rx := .mk 1 [] []
theorem take_succ' {α : Type} [Inhabited α] {l : List α} {i : Nat} (h : i < l.length) : l.take (i + 1) = l.take i ++ [l.getD i default] := by
  rw [List.take_add_one, List.getD_eq_getElem?_getD, List.getElem?_eq_getElem h]; rfl
def seqF (x : Rx) : List Rx := if x.kind = 3 then x.kids else if x.kind = 1 then [] else [x]
def seqL (l : List Rx) : List Rx := l.flatMap seqF
theorem seqL_succ {l : List Rx} {i : Nat} (h : i < l.length) : seqL (l.take (i + 1)) = seqL (l.take i) ++ seqF (l.getD i default) := by
  rw [take_succ' h, seqL, List.flatMap_append]; simp [seqL]
theorem seqF_len (x : Rx) : (seqF x).length ≤ x.size := by
  unfold seqF; have := kids_len x; have := size_pos x
  split
  · omega
  · split <;> simp <;> omega
theorem seqL_len : ∀ l : List Rx, (seqL l).length ≤ Rx.sizes l
  | [] => Nat.zero_le _
  | x :: l => by
    have := seqL_len l
    have := seqF_len x
    rw [Rx.sizes]; simp only [seqL, List.flatMap_cons, List.length_append] at *; omega
theorem sizes_append : ∀ (l m : List Rx), Rx.sizes (l ++ m) = Rx.sizes l + Rx.sizes m
  | [], m => by rw [List.nil_append, Rx.sizes, Nat.zero_add]
  | x :: l, m => by rw [List.cons_append, Rx.sizes, Rx.sizes, sizes_append l m]; omega
theorem sizes_take_drop (l : List Rx) (i : Nat) : Rx.sizes (l.take i) + Rx.sizes (l.drop i) = Rx.sizes l := by
  rw [← sizes_append, List.take_append_drop]
theorem seqL_room {l : List Rx} {i : Nat} (h : i < l.length) : (seqL (l.take i)).length + (l.getD i default).kids.length + 1 ≤ Rx.sizes l := by
  have h1 := seqL_len (l.take i)
  have h2 := sizes_take_drop l i
  have h3 := sizes_step h
  have h4 := kids_len (l.getD i default)
  omega
theorem seqF_3 {x : Rx} (h : x.kind = 3) : seqF x = x.kids := if_pos h
theorem seqF_1 {x : Rx} (h : x.kind = 1) : seqF x = [] := by unfold seqF; rw [if_neg (by omega), if_pos h]
theorem seqF_x {x : Rx} (h : x.kind ≠ 3) (h1 : x.kind ≠ 1) : seqF x = [x] := by unfold seqF; rw [if_neg h, if_neg h1]
def seqE (k : List Rx) : Rx := if k.length = 0 then emptyRx else if k.length = 1 then k.getD 0 default else .mk 3 [] k
def seqN (l : List Rx) : Rx := if l.any (fun x => decide (x.kind = 0)) then noneRx else seqE (seqL l)
theorem seqN_none {l : List Rx} {i : Nat} (h : i < l.length) (hk : (l.getD i default).kind = 0) : seqN l = noneRx := by
  unfold seqN; rw [if_pos (any_yes h (decide_eq_true hk))]
theorem seqN_some {l : List Rx} (h : ∀ j, j < l.length → (l.getD j default).kind ≠ 0) : seqN l = seqE (seqL l) := by
  unfold seqN; rw [any_no (p := fun x : Rx => decide (x.kind = 0)) (l := l) fun j hj => decide_eq_false (h j hj)]; rfl
theorem seqE_0 {k : List Rx} (h : k.length = 0) : seqE k = emptyRx := if_pos h
theorem seqE_1 {k : List Rx} (h : k.length = 1) : seqE k = k.getD 0 default := by unfold seqE; rw [if_neg (by omega), if_pos h]
theorem seqE_2 {k : List Rx} (h : k.length ≠ 0) (h1 : k.length ≠ 1) : seqE k = .mk 3 [] k := by unfold seqE; rw [if_neg h, if_neg h1]
theorem rx_mk (k : Int) (s : List Int) (l : List Rx) : rx (.mk k s l) = .agg [int k, ints s, rxs l] := rx_eq _
def starB (x : Rx) : Rx := if x.kind = 4 ∧ (x.kids.getD 0 default).kind = 1 then (if x.kids.length = 2 then x.kids.getD 1 default else .mk x.kind x.syms (x.kids.drop 1)) else x
def starN (x : Rx) : Rx := if x.kind = 0 ∨ x.kind = 1 then emptyRx else if x.kind = 5 then x else .mk 5 [] [starB x]
def orI : List Int → Int
  | [] => 0
  | x :: l => thn x (orI l)
theorem orI_step {l : List Int} {k : Nat} (h : k < l.length) : orI (l.drop k) = thn (l.getD k default) (orI (l.drop (k + 1))) := by rw [drop_cons h]; rfl
theorem orderI_nn (x : Int) : orderI x x = 0 := by unfold orderI; rw [if_neg (by omega), if_neg (by omega)]
theorem orderI_lt {x y : Int} (h : x < y) : orderI x y = -1 := if_pos h
theorem orderI_gt {x y : Int} (h : y < x) : orderI x y = 1 := by unfold orderI; rw [if_neg (by omega), if_pos h]
theorem cmpR_or (a b : Rx) : orI [orderI a.kind b.kind, orderL a.syms b.syms, cmpRs a.kids b.kids] = cmpR a b := by
  rw [cmpR_eq]; unfold orI orI orI orI thn; repeat' split
  all_goals first | rfl | (simp_all; done) | omega
end Go.Wb

