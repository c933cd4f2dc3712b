/-
  Plain functions: the product of two automata, as the reference makes it; joins.
-/
import Derived.Test.YtjimlkpfmbachaaGreatJ9
import Derived.Shelf.SortM.Plain
import Derived.Shelf.SortM.SortNone
import Derived.Shelf.SlicesG.Reverse
import Derived.Test.YtjimlkpfmbachaaGreatJ17
import Derived.Test.YtjimlkpfmbachaaGreatJ19
set_option linter.unusedVariables false
set_option linter.unusedSectionVars false
set_option linter.unusedSimpArgs false
namespace Go.Am
open Go.RowKit Go.Sort Go.Proofs
set_option linter.unusedVariables false
structure SortsZ (P : Program) (f : FuncId) : Prop where
  callable : Callable P f
  none : ∀ (p : Option Addr) (cap : Nat) (w : World), Calls P f #[.slice p 0 cap] w fun e w' => e = .returned (.tuple #[]) ∧ w' = w
  some : ∀ (blk off cap : Nat) (zs : List Int) (w : World) (hH : Holds (Value.int .i64) w blk off zs.toArray) (hblk : blk < w.heap.size) (hsz : zs.length < 4611686018427387904),
    Calls P f #[.slice (.some ⟨blk, off, .none⟩) zs.length cap] w fun e w' =>
      e = .returned (.tuple #[]) ∧ ∃ n os, w' = grow (putRow (Value.int .i64) (Sort.ahead w n) blk off (zs.mergeSort fun x y => decide (x ≤ y)).toArray) os
section
variable {P : Program} {w0 : Fr} {M0 : Nat → Prop}
variable {o : Oper} {s : St} {x y : Operand} {T T' e : TypeId} {c : Cls} {id t : Nat}
theorem step_sortZ {l : List Int} {f : FuncId} {ats : Array TypeId} (hS : SortsZ P f) (ho : o.op = .call { callee := .value (.func f), args := #[x], argTypes := ats }) (hd : o.dst = some t) (hn : Nat.blt t s.n = true)
    (hnd : Nodup s.s = true) (hx : s.ev x = some (.own id)) (hl : s.o.lookup id = some (.arr e (l.map int))) (hk : szOf P e = some 1) (hsz : l.length < 4611686018427387904) (hM0 : ∀ b, M0 b → b < w0.w.heap.size) :
    Step P w0 M0 o s ((s.upd false id (.arr e ((l.mergeSort fun x y => decide (x ≤ y)).map int))).put t (.v .pl (.tup []))) := by
  rintro a w Q ⟨E, hs⟩
  have hxv := hs.ev hx _ _ hl
  have hob := hs.wok.objs id _ hl
  obtain ⟨vals, ⟨hown, hownF⟩, hcl, hrp⟩ := hob
  have hck := cellsOf_of hk
  have hxl : (l.map int).length = l.length := by simp
  have hvals : vals = l.map (Value.int .i64) := by
    apply List.ext_getElem?
    intro j
    have hlen : vals.length = l.length := by have := hown.1; rw [hck] at this; simpa using this
    rcases Nat.lt_or_ge j l.length with hj | hj
    · have h2 := (hrp j (.sc (.int .i64 l[j])) (by rw [show l.map int = l.map fun z => AV.sc (Value.int .i64 z) from rfl, flat_sv, List.getElem?_map, List.getElem?_eq_getElem hj]; rfl)).2
      rw [List.getD_eq_getElem?_getD, List.getElem?_eq_getElem (by omega), Option.getD_some] at h2
      rw [List.getElem?_eq_getElem (by omega), List.getElem?_map, List.getElem?_eq_getElem hj, Option.map_some]
      congr 1
      generalize vals[j] = u at h2 ⊢
      cases h2; rfl
    · rw [List.getElem?_eq_none (by omega), List.getElem?_eq_none (by simpa using hj)]
  have hrun : (execOp a.eval o).run P w = .ok (.enter f #[E.cur id]) w := by
    have := run_call (P := P) (ev := a.eval) (w := w) (caps := #[]) ho rfl hS.callable
    simpa [hxv] using this
  unfold Oper.wp
  rw [hrun]
  simp only [Oper.upon]
  rcases hown.2 with ⟨hv, hn0⟩ | ⟨gb, cap, cur, hv, hgb, hh, hnc', hcm, hcs, htake⟩
  · -- nothing to sort
    have hl0 : l = [] := List.eq_nil_of_length_eq_zero (by simpa using hn0)
    rw [hv]
    refine (hS.none none 0 w).mono fun e' w' ⟨he, hw⟩ => ?_
    subst he; subst hw
    simp only [hd]
    refine ⟨E, SimE.put ?_ (by simpa [St.upd] using hn) (Rep.tup [] [] rfl (fun j d hd => by simp at hd))⟩
    refine hs.upd false (fun _ => ⟨rfl, .inl ⟨e, _, _, hl, rfl, by simp⟩⟩) hnd hM0 (fun i hi => ⟨rfl, rfl⟩) (.inr rfl) none ⟨rfl, rfl, rfl, Nat.le_refl _, fun _ _ _ => rfl⟩ (fun _ => Nat.le_refl _) (fun g hg' => by cases hg') (fun b hb => .inl ⟨_, hl, hb⟩) (fun rep sv => ?_)
    subst hl0
    simp only [List.mergeSort_nil, List.map_nil]
    refine ⟨[], ⟨⟨by simp, .inl ⟨hv, rfl⟩⟩, hownF⟩, fun x hx => (by cases hx), fun j d hd => (by simp [flat] at hd)⟩
  · rw [hxl] at hv hnc' htake
    rw [hck, Nat.mul_one] at hcs
    rw [hck, Nat.mul_one, hvals] at htake
    rcases Nat.eq_zero_or_pos l.length with hl0 | hpos
    · -- nothing to sort, with room behind
      have hl0 : l = [] := List.eq_nil_of_length_eq_zero hl0
      rw [hv, hl0]
      refine (hS.none _ cap w).mono fun e' w' ⟨he, hw⟩ => ?_
      subst he; subst hw
      simp only [hd]
      refine ⟨E, SimE.put ?_ (by simpa [St.upd] using hn) (Rep.tup [] [] rfl (fun j d hd => by simp at hd))⟩
      refine hs.upd false (fun _ => ⟨rfl, .inl ⟨e, _, _, hl, rfl, by simp [hl0]⟩⟩) hnd hM0 (fun i hi => ⟨rfl, rfl⟩) (.inr rfl) none ⟨rfl, rfl, rfl, Nat.le_refl _, fun _ _ _ => rfl⟩ (fun _ => Nat.le_refl _) (fun g hg' => by cases hg') (fun b hb => .inl ⟨_, hl, hb⟩) (fun rep sv => ?_)
      simp only [List.mergeSort_nil, List.map_nil]
      refine ⟨[], ⟨⟨by simp, .inr ⟨gb, cap, cur, by rw [hv, hl0]; rfl, hgb, hh, Nat.zero_le _, hcm, by rw [hck, Nat.mul_one]; exact hcs, by simp⟩⟩, hownF⟩, fun x hx => (by cases hx), fun j d hd => (by simp [flat] at hd)⟩
    · have hblk : gb < w.heap.size := (Array.getElem?_eq_some_iff.1 hh).1
      have hcurj : ∀ j (hj : j < l.length), cur[j]? = some (Value.int .i64 l[j]) := fun j hj => by
        have : (cur.toList.take l.length)[j]? = some (Value.int .i64 l[j]) := by rw [htake, List.getElem?_map, List.getElem?_eq_getElem hj]; rfl
        rw [List.getElem?_take, if_pos hj, Array.getElem?_toList] at this
        exact this
      have hH : Holds (Value.int .i64) w gb 0 l.toArray := by
        intro j hj
        have hj' : j < l.length := by simpa using hj
        refine ⟨?_, ?_⟩
        · simp only [World.cell?, hh, Nat.zero_add]
          rw [getElem!_pos l.toArray j hj]
          simpa using hcurj j hj'
        · simp only [World.frozen?, hh]
          simp
      have hcall := hS.some gb 0 cap l w hH hblk hsz
      rw [hv]
      refine hcall.mono fun e' w' ⟨he, n, os, hw⟩ => ?_
      subst he
      simp only [hd]
      generalize hml : (l.mergeSort fun x y => decide (x ≤ y)) = ml at hw
      have hmll : ml.length = l.length := by rw [← hml]; simp
      have hw' : w' = sortWorld (Value.int .i64) w gb 0 n ml.toArray os := hw
      have hdrawn : w.drawn ≤ w'.drawn := by rw [hw']; simp [sortWorld, grow, putRow, mapBlock, Sort.ahead]
      have hgr : w.grownBy w' (some gb) := by
        rw [hw']
        exact ⟨rfl, rfl, rfl, by rw [sortWorld_size]; omega, fun k hk hne => sortWorld_other _ _ _ _ _ _ (fun he => hne (by rw [he])) hk⟩
      have hhw : w'.heap[gb]? = some (.cells (putCells (Value.int .i64) 0 ml.toArray cur) e (0, 0)) := by
        have := sortWorld_same (enc := Value.int .i64) w gb n ml.toArray os (off := 0) hh
        rw [hw']; exact this
      refine ⟨E, SimE.put ?_ (by simpa [St.upd] using hn) (Rep.tup [] [] rfl (fun j d hd => by simp at hd))⟩
      refine hs.upd false (fun _ => ⟨rfl, .inl ⟨e, _, _, hl, rfl, by simp [hmll]⟩⟩) hnd hM0 (fun i hi => ⟨rfl, rfl⟩) (.inr rfl) (some gb) hgr (fun _ => hdrawn) (fun g' hg' => ⟨_, hl, by simp only [Option.some.injEq] at hg'; subst hg'; simp only [ownB, hv, Value.ownBlock]⟩) (fun b hb => .inl ⟨_, hl, hb⟩) (fun rep sv => ?_)
      refine ⟨ml.map (Value.int .i64), ⟨⟨by rw [hck]; simp, .inr ⟨gb, cap, _, by rw [hv]; simp [hmll], hgb, hhw, by simpa [hmll] using hnc', hcm, by rw [hck, Nat.mul_one]; simpa [putCells] using hcs, ?_⟩⟩, hownF⟩, ?_, fun j d' hd' => ?_⟩
      · rw [hck]
        apply List.ext_getElem?
        intro j
        simp only [List.length_map, Nat.mul_one, hmll]
        rw [List.getElem?_take]
        by_cases hj : j < l.length
        · rw [if_pos hj, Array.getElem?_toList]
          simp only [putCells, Array.getElem?_mapIdx, hcurj j hj, Option.map_some, Nat.zero_le, true_and, Nat.zero_add, List.size_toArray, hmll, hj, if_true, Nat.sub_zero]
          rw [List.getElem?_map, List.getElem?_eq_getElem (by omega), Option.map_some, getElem!_pos ml.toArray j (by simp; omega)]
          simp
        · rw [if_neg hj, List.getElem?_eq_none (by simp; omega)]
      · intro x hx
        rw [List.mem_map] at hx
        obtain ⟨z, _, rfl⟩ := hx
        rw [hck]; rfl
      · rw [show ml.map int = ml.map fun z => AV.sc (Value.int .i64 z) from rfl, flat_sv, List.getElem?_map, Option.map_eq_some_iff] at hd'
        obtain ⟨z, hz, rfl⟩ := hd'
        refine ⟨rfl, ?_⟩
        rw [List.getD_eq_getElem?_getD, List.getElem?_map, hz]
        exact .sc _ rfl
end
end Go.Am

namespace Go.Am
open Go.RowKit Go.Sort Go.Proofs
set_option linter.unusedVariables false
structure RevI (P : Program) (f : FuncId) : Prop where
  callable : Callable P f
  none : ∀ (p : Option Addr) (cap : Nat) (w : World), Calls P f #[.slice p 0 cap] w fun e w' => e = .returned (.tuple #[]) ∧ w' = w
  some : ∀ (blk off cap : Nat) (zs : List Int) (w : World) (hH : Holds (Value.int .i64) w blk off zs.toArray) (hblk : blk < w.heap.size) (hsz : zs.length < 4611686018427387904),
    Calls P f #[.slice (.some ⟨blk, off, .none⟩) zs.length cap] w fun e w' =>
      e = .returned (.tuple #[]) ∧ ∃ n os, w' = grow (putRow (Value.int .i64) (Sort.ahead w n) blk off (zs.reverse).toArray) os
section
variable {P : Program} {w0 : Fr} {M0 : Nat → Prop}
variable {o : Oper} {s : St} {x y : Operand} {T T' e : TypeId} {c : Cls} {id t : Nat}
theorem grow_none (w : World) : grow w #[] = w := by unfold grow; simp
theorem step_revI {l : List Int} {f : FuncId} {ats : Array TypeId} (hS : RevI P f) (ho : o.op = .call { callee := .value (.func f), args := #[x], argTypes := ats }) (hd : o.dst = some t) (hn : Nat.blt t s.n = true)
    (hnd : Nodup s.s = true) (hx : s.ev x = some (.own id)) (hl : s.o.lookup id = some (.arr e (l.map int))) (hk : szOf P e = some 1) (hsz : l.length < 4611686018427387904) (hM0 : ∀ b, M0 b → b < w0.w.heap.size) :
    Step P w0 M0 o s ((s.upd false id (.arr e ((l.reverse).map int))).put t (.v .pl (.tup []))) := by
  rintro a w Q ⟨E, hs⟩
  have hxv := hs.ev hx _ _ hl
  have hob := hs.wok.objs id _ hl
  obtain ⟨vals, ⟨hown, hownF⟩, hcl, hrp⟩ := hob
  have hck := cellsOf_of hk
  have hxl : (l.map int).length = l.length := by simp
  have hvals : vals = l.map (Value.int .i64) := by
    apply List.ext_getElem?
    intro j
    have hlen : vals.length = l.length := by have := hown.1; rw [hck] at this; simpa using this
    rcases Nat.lt_or_ge j l.length with hj | hj
    · have h2 := (hrp j (.sc (.int .i64 l[j])) (by rw [show l.map int = l.map fun z => AV.sc (Value.int .i64 z) from rfl, flat_sv, List.getElem?_map, List.getElem?_eq_getElem hj]; rfl)).2
      rw [List.getD_eq_getElem?_getD, List.getElem?_eq_getElem (by omega), Option.getD_some] at h2
      rw [List.getElem?_eq_getElem (by omega), List.getElem?_map, List.getElem?_eq_getElem hj, Option.map_some]
      congr 1
      generalize vals[j] = u at h2 ⊢
      cases h2; rfl
    · rw [List.getElem?_eq_none (by omega), List.getElem?_eq_none (by simpa using hj)]
  have hrun : (execOp a.eval o).run P w = .ok (.enter f #[E.cur id]) w := by
    have := run_call (P := P) (ev := a.eval) (w := w) (caps := #[]) ho rfl hS.callable
    simpa [hxv] using this
  unfold Oper.wp
  rw [hrun]
  simp only [Oper.upon]
  rcases hown.2 with ⟨hv, hn0⟩ | ⟨gb, cap, cur, hv, hgb, hh, hnc', hcm, hcs, htake⟩
  · -- nothing to sort
    have hl0 : l = [] := List.eq_nil_of_length_eq_zero (by simpa using hn0)
    rw [hv]
    refine (hS.none none 0 w).mono fun e' w' ⟨he, hw⟩ => ?_
    subst he; subst hw
    simp only [hd]
    refine ⟨E, SimE.put ?_ (by simpa [St.upd] using hn) (Rep.tup [] [] rfl (fun j d hd => by simp at hd))⟩
    refine hs.upd false (fun _ => ⟨rfl, .inl ⟨e, _, _, hl, rfl, by simp⟩⟩) hnd hM0 (fun i hi => ⟨rfl, rfl⟩) (.inr rfl) none ⟨rfl, rfl, rfl, Nat.le_refl _, fun _ _ _ => rfl⟩ (fun _ => Nat.le_refl _) (fun g hg' => by cases hg') (fun b hb => .inl ⟨_, hl, hb⟩) (fun rep sv => ?_)
    subst hl0
    simp only [List.reverse_nil, List.map_nil]
    refine ⟨[], ⟨⟨by simp, .inl ⟨hv, rfl⟩⟩, hownF⟩, fun x hx => (by cases hx), fun j d hd => (by simp [flat] at hd)⟩
  · rw [hxl] at hv hnc' htake
    rw [hck, Nat.mul_one] at hcs
    rw [hck, Nat.mul_one, hvals] at htake
    rcases Nat.eq_zero_or_pos l.length with hl0 | hpos
    · -- nothing to sort, with room behind
      have hl0 : l = [] := List.eq_nil_of_length_eq_zero hl0
      rw [hv, hl0]
      refine (hS.none _ cap w).mono fun e' w' ⟨he, hw⟩ => ?_
      subst he; subst hw
      simp only [hd]
      refine ⟨E, SimE.put ?_ (by simpa [St.upd] using hn) (Rep.tup [] [] rfl (fun j d hd => by simp at hd))⟩
      refine hs.upd false (fun _ => ⟨rfl, .inl ⟨e, _, _, hl, rfl, by simp [hl0]⟩⟩) hnd hM0 (fun i hi => ⟨rfl, rfl⟩) (.inr rfl) none ⟨rfl, rfl, rfl, Nat.le_refl _, fun _ _ _ => rfl⟩ (fun _ => Nat.le_refl _) (fun g hg' => by cases hg') (fun b hb => .inl ⟨_, hl, hb⟩) (fun rep sv => ?_)
      simp only [List.reverse_nil, List.map_nil]
      refine ⟨[], ⟨⟨by simp, .inr ⟨gb, cap, cur, by rw [hv, hl0]; rfl, hgb, hh, Nat.zero_le _, hcm, by rw [hck, Nat.mul_one]; exact hcs, by simp⟩⟩, hownF⟩, fun x hx => (by cases hx), fun j d hd => (by simp [flat] at hd)⟩
    · have hblk : gb < w.heap.size := (Array.getElem?_eq_some_iff.1 hh).1
      have hcurj : ∀ j (hj : j < l.length), cur[j]? = some (Value.int .i64 l[j]) := fun j hj => by
        have : (cur.toList.take l.length)[j]? = some (Value.int .i64 l[j]) := by rw [htake, List.getElem?_map, List.getElem?_eq_getElem hj]; rfl
        rw [List.getElem?_take, if_pos hj, Array.getElem?_toList] at this
        exact this
      have hH : Holds (Value.int .i64) w gb 0 l.toArray := by
        intro j hj
        have hj' : j < l.length := by simpa using hj
        refine ⟨?_, ?_⟩
        · simp only [World.cell?, hh, Nat.zero_add]
          rw [getElem!_pos l.toArray j hj]
          simpa using hcurj j hj'
        · simp only [World.frozen?, hh]
          simp
      have hcall := hS.some gb 0 cap l w hH hblk hsz
      rw [hv]
      refine hcall.mono fun e' w' ⟨he, n, os, hw⟩ => ?_
      subst he
      simp only [hd]
      generalize hml : (l.reverse) = ml at hw
      have hmll : ml.length = l.length := by rw [← hml]; simp
      have hw' : w' = sortWorld (Value.int .i64) w gb 0 n ml.toArray os := hw
      have hdrawn : w.drawn ≤ w'.drawn := by rw [hw']; simp [sortWorld, grow, putRow, mapBlock, Sort.ahead]
      have hgr : w.grownBy w' (some gb) := by
        rw [hw']
        exact ⟨rfl, rfl, rfl, by rw [sortWorld_size]; omega, fun k hk hne => sortWorld_other _ _ _ _ _ _ (fun he => hne (by rw [he])) hk⟩
      have hhw : w'.heap[gb]? = some (.cells (putCells (Value.int .i64) 0 ml.toArray cur) e (0, 0)) := by
        have := sortWorld_same (enc := Value.int .i64) w gb n ml.toArray os (off := 0) hh
        rw [hw']; exact this
      refine ⟨E, SimE.put ?_ (by simpa [St.upd] using hn) (Rep.tup [] [] rfl (fun j d hd => by simp at hd))⟩
      refine hs.upd false (fun _ => ⟨rfl, .inl ⟨e, _, _, hl, rfl, by simp [hmll]⟩⟩) hnd hM0 (fun i hi => ⟨rfl, rfl⟩) (.inr rfl) (some gb) hgr (fun _ => hdrawn) (fun g' hg' => ⟨_, hl, by simp only [Option.some.injEq] at hg'; subst hg'; simp only [ownB, hv, Value.ownBlock]⟩) (fun b hb => .inl ⟨_, hl, hb⟩) (fun rep sv => ?_)
      refine ⟨ml.map (Value.int .i64), ⟨⟨by rw [hck]; simp, .inr ⟨gb, cap, _, by rw [hv]; simp [hmll], hgb, hhw, by simpa [hmll] using hnc', hcm, by rw [hck, Nat.mul_one]; simpa [putCells] using hcs, ?_⟩⟩, hownF⟩, ?_, fun j d' hd' => ?_⟩
      · rw [hck]
        apply List.ext_getElem?
        intro j
        simp only [List.length_map, Nat.mul_one, hmll]
        rw [List.getElem?_take]
        by_cases hj : j < l.length
        · rw [if_pos hj, Array.getElem?_toList]
          simp only [putCells, Array.getElem?_mapIdx, hcurj j hj, Option.map_some, Nat.zero_le, true_and, Nat.zero_add, List.size_toArray, hmll, hj, if_true, Nat.sub_zero]
          rw [List.getElem?_map, List.getElem?_eq_getElem (by omega), Option.map_some, getElem!_pos ml.toArray j (by simp; omega)]
          simp
        · rw [if_neg hj, List.getElem?_eq_none (by simp; omega)]
      · intro x hx
        rw [List.mem_map] at hx
        obtain ⟨z, _, rfl⟩ := hx
        rw [hck]; rfl
      · rw [show ml.map int = ml.map fun z => AV.sc (Value.int .i64 z) from rfl, flat_sv, List.getElem?_map, Option.map_eq_some_iff] at hd'
        obtain ⟨z, hz, rfl⟩ := hd'
        refine ⟨rfl, ?_⟩
        rw [List.getD_eq_getElem?_getD, List.getElem?_map, hz]
        exact .sc _ rfl
end
end Go.Am

namespace Go.Am
open Go.RowKit
set_option linter.unusedVariables false
section
variable {P : Program} {w0 : Fr} {M0 : Nat → Prop} {s : St}
theorem imp_nilownC (b j K : Nat) (e eb : TypeId) {c : Cls} {cs : List SV} (hM0 : ∀ b, M0 b → b < w0.w.heap.size) (hnd : Nodup s.s = true) (hb : (s.upd true K (.arr e [])).o.lookup b = some (.box eb cs)) (hj : cs[j]? = some (.v c (.sc (.slice none 0 0))))
    (hnd' : Nodup (s.upd true K (.arr e [])).s = true) : Imp P w0 M0 s ((s.upd true K (.arr e [])).upd false b (.box eb ((keepC b cs).set j (.own K)))) := by
  rintro a w ⟨E, hs⟩
  have h1 := hs.newArr (t := K) (e := e) (xs := []) (v := .slice none 0 0) hnd hM0 (w' := w) ⟨rfl, rfl, rfl, Nat.le_refl _, fun _ _ _ => rfl⟩ (fun _ => Nat.le_refl _) (vals := []) (World.ownsRow_nil w _ _ _) (fun b hb => by cases hb) (fun x hx => by cases hx) (fun j d hd => by simp [flat] at hd)
  generalize hE1 : ({ E with cur := fun i => if i = K then .slice none 0 0 else E.cur i } : Env) = E1 at h1
  have hc : E1.cur K = .slice none 0 0 := by rw [← hE1]; simp
  refine ⟨E1, h1.upd false (fun _ => ⟨rfl, .inr (.inl ⟨eb, cs, _, hb, rfl⟩)⟩) hnd' hM0 (fun i hi => ⟨rfl, rfl⟩) (.inr rfl) none ⟨rfl, rfl, rfl, Nat.le_refl _, fun _ _ _ => rfl⟩ (fun _ => Nat.le_refl _) (fun g hg => by cases hg) (fun b' hb' => .inl ⟨_, hb, hb'⟩) (fun rep sv => ?_)⟩
  obtain ⟨vals, g1, g2, g3, g4⟩ := h1.wok.objs b _ hb
  refine ⟨vals, g1, g2, by simpa [keepC] using g3, fun i d hd => ?_⟩
  by_cases hi : j = i
  · subst hi
    have hjl : j < cs.length := (List.getElem?_eq_some_iff.1 hj).1
    rw [List.getElem?_set_self (by simpa [keepC] using hjl)] at hd
    simp only [Option.some.injEq] at hd
    subst hd
    have := g4 j _ hj
    refine ⟨rfl, this.2.1, fun e' xs' _ => ?_⟩
    rw [hc]
    have h5 : Rep w _ (vals.getD j undef) (.sc (.slice none 0 0)) := this.2.2
    generalize vals.getD j undef = u at h5 ⊢
    cases h5; rfl
  · rw [List.getElem?_set_ne hi] at hd
    simp only [keepC, List.getElem?_map, Option.map_eq_some_iff] at hd
    obtain ⟨d0, hd0, rfl⟩ := hd
    have := g4 i d0 hd0
    split
    · exact ⟨this.1, this.2.1, sv _ _ this.2.2 ‹_›⟩
    · exact ⟨rfl, this.2.1, trivial⟩
theorem code_nilownC {y : Code} {Q : Exit → St → Prop} (b j K : Nat) (e eb : TypeId) {c : Cls} {cs : List SV} (hM0 : ∀ b, M0 b → b < w0.w.heap.size) (hnd : Nodup s.s = true) (hb : (s.upd true K (.arr e [])).o.lookup b = some (.box eb cs)) (hj : cs[j]? = some (.v c (.sc (.slice none 0 0))))
    (hnd' : Nodup (s.upd true K (.arr e [])).s = true) (h : CodeOk P w0 M0 y ((s.upd true K (.arr e [])).upd false b (.box eb ((keepC b cs).set j (.own K)))) Q) : CodeOk P w0 M0 y s Q :=
  CodeOk.imp (imp_nilownC b j K e eb hM0 hnd hb hj hnd') h
end
end Go.Am

namespace Go.Wd
set_option linter.unusedVariables false
open Go.Am
theorem nodup_kv {K : Type} {kv : K → Value} (hk : ∀ a b, kv a = kv b → a = b) {l : List K} (h : l.Nodup) : (l.map kv).Nodup := List.Pairwise.map kv (fun a b hab e => hab (hk a b e)) h
def smallP (x : Nat × Nat) : Prop := x.1 ≤ 4611686018427387904 ∧ x.2 ≤ 4611686018427387904
def differZ (a b : Dfa) : Option (List Nat) := if validD a = true ∧ validD b = true ∧ a.size = b.size then diffP a b else none
theorem differZ_t {a b : Dfa} (h1 : validD a = true) (h2 : validD b = true) (h3 : a.size = b.size) : differZ a b = diffP a b := if_pos ⟨h1, h2, h3⟩
theorem differZ_f {a b : Dfa} (h : ¬ (validD a = true ∧ validD b = true ∧ a.size = b.size)) : differZ a b = none := if_neg h
theorem differZ_a {a b : Dfa} (h : validD a = false) : differZ a b = none := if_neg fun q => by rw [h] at q; cases q.1
theorem differZ_b {a b : Dfa} (h : validD b = false) : differZ a b = none := if_neg fun q => by rw [h] at q; cases q.2.1
end Go.Wd

namespace Go.Wd
set_option linter.unusedVariables false
section
variable {K : Type} [DecidableEq K] {next : K → Nat → K} {size : Nat} {final : K → Bool}
end
section
variable {d m : Dfa}
structure Few (m : Dfa) (U : List (List Bool)) : Prop where
  cl : ∀ x ∈ U, ∀ s, s < m.k → snext m x s ∈ U
  start : m.fin ∈ U
  le : U.length ≤ 2048
  le2 : U.length ≤ 2 ^ m.n
theorem Few.met {U : List (List Bool)} (hU : Few m U) : Met (snext m) m.k U (reach (snext m) m.k (2 ^ m.n) m.fin) (reach (snext m) m.k (2 ^ m.n) m.fin).length ∧ [m.fin] <+: reach (snext m) m.k (2 ^ m.n) m.fin := by
  rw [reach_more hU.cl hU.start hU.le2]
  exact reach_met hU.cl hU.start
end
end Go.Wd

namespace Go.Wd
set_option linter.unusedVariables false
open Go.Am Go.Wc
end Go.Wd
namespace Go.Wd
section
variable {K : Type} [DecidableEq K] {next : K → Nat → K} {size : Nat} {good : K → Bool}
theorem growW_word {B : Nat} {p : Pth K} (hp : p.2.length ≤ B) {l : List (Pth K)} (hl : ∀ q ∈ l, q.2.length ≤ B + 1) : ∀ s, ∀ q ∈ growW next p l s, q.2.length ≤ B + 1
  | 0, q, hq => hl q hq
  | s + 1, q, hq => by
    rw [growW] at hq
    unfold addW at hq
    split at hq
    · exact growW_word hp hl s q hq
    · rcases List.mem_append.1 hq with hq | hq
      · exact growW_word hp hl s q hq
      · rw [List.mem_singleton.1 hq]
        show (p.2 ++ [s]).length ≤ B + 1
        rw [List.length_append]; simp only [List.length_cons, List.length_nil]; omega
theorem seek_word : ∀ (f i B : Nat) (l : List (Pth K)) (w : List Nat), (∀ q ∈ l, q.2.length ≤ B) → seekW next size good f i l = some w → w.length ≤ B + f
  | 0, i, B, l, w, _, h => by cases h
  | f + 1, i, B, l, w, hl, h => by
    rw [seekW] at h
    cases hx : l[i]? with
    | none => rw [hx] at h; cases h
    | some p =>
      rw [hx] at h
      simp only [] at h
      have hp := hl p (List.mem_of_getElem? hx)
      split at h
      · injection h with h
        rw [← h]; omega
      · have := seek_word f (i + 1) (B + 1) _ w (growW_word hp (fun q hq => by have := hl q hq; omega) size) h
        omega
end
end Go.Wd

namespace Go.Wd
set_option linter.unusedVariables false
open Go.Am Go.Wc
def cod (m : Nat) (x : Nat × Nat) : Nat := x.1 * m + x.2
def cnext (a b : Dfa) (c s : Nat) : Nat := a.stp (c / b.n) s * b.n + b.stp (c % b.n) s
def cfin (f : Bool → Bool → Bool) (a b : Dfa) (c : Nat) : Bool := f (a.fn (c / b.n)) (b.fn (c % b.n))
def ft (e x y : Bool) : Bool := x && y || (e && (x || y))
abbrev andB (x y : Bool) : Bool := x && y
abbrev orB (x y : Bool) : Bool := x || y
section
variable {a b : Dfa} {c : Nat} {e : Bool}
theorem cfin_1 (h1 : a.fin.getD (c / b.n) default = true) (h2 : b.fin.getD (c % b.n) default = true) : cfin (ft e) a b c = true := by
  unfold cfin ft Dfa.fn; rw [h1, h2]; rfl
theorem cfin_2 (h1 : a.fin.getD (c / b.n) default = true) (h2 : e = true) : cfin (ft e) a b c = true := by
  unfold cfin ft Dfa.fn; rw [h1, h2]; cases b.fin.getD (c % b.n) default <;> rfl
theorem cfin_3 (h1 : a.fin.getD (c / b.n) default = true) (h2 : b.fin.getD (c % b.n) default = false) (h3 : e = false) : cfin (ft e) a b c = false := by
  unfold cfin ft Dfa.fn; rw [h1, h2, h3]; rfl
theorem cfin_4 (h1 : a.fin.getD (c / b.n) default = false) (h2 : e = true) : cfin (ft e) a b c = b.fin.getD (c % b.n) default := by
  unfold cfin ft Dfa.fn; rw [h1, h2]; cases b.fin.getD (c % b.n) default <;> rfl
theorem cfin_5 (h1 : a.fin.getD (c / b.n) default = false) (h2 : e = false) : cfin (ft e) a b c = false := by
  unfold cfin ft Dfa.fn; rw [h1, h2]; cases b.fin.getD (c % b.n) default <;> rfl
end
theorem ft_and : ft false = andB := by funext x y; cases x <;> cases y <;> rfl
theorem cod_div {m i j : Nat} (h : j < m) : (i * m + j) / m = i := by
  rw [Nat.mul_comm, Nat.mul_add_div (by omega), Nat.div_eq_of_lt h]; rfl
theorem cod_mod {m i j : Nat} (h : j < m) : (i * m + j) % m = j := by
  rw [Nat.mul_comm, Nat.mul_add_mod, Nat.mod_eq_of_lt h]
theorem cod_lt {n m i j : Nat} (h1 : i < n) (h2 : j < m) : i * m + j < n * m := by
  have h : (i + 1) * m ≤ n * m := Nat.mul_le_mul_right m h1
  rw [Nat.succ_mul] at h
  omega
theorem cod_parts {n m c : Nat} (h : c < n * m) : c / m < n ∧ c % m < m := by
  have hm : 0 < m := Nat.pos_of_ne_zero fun e => by rw [e] at h; omega
  exact ⟨(Nat.div_lt_iff_lt_mul hm).2 h, Nat.mod_lt _ hm⟩
section
variable {a b : Dfa} {f : Bool → Bool → Bool}
theorem cnext_lt (ha : okD a) (hb : okD b) (hk : a.k = b.k) : ∀ x ∈ List.range (a.n * b.n), ∀ s, s < a.k → cnext a b x s ∈ List.range (a.n * b.n) := fun x hx s hs => by
  have h := cod_parts (List.mem_range.1 hx)
  exact List.mem_range.2 (cod_lt (ha.stp h.1 hs) (hb.stp h.2 (by omega)))
def cl (a b : Dfa) : List Nat := reach (cnext a b) a.k (a.n * b.n) 0
theorem prod_sim (ha : okD a) (hb : okD b) (hk : a.k = b.k) : prodP f a b = mkD (cnext a b) a.k (cfin f a b) (cl a b) := by
  have hR : ∀ x y x' y', ((x : Nat × Nat).2 < b.n ∧ x.1 < a.n ∧ x' = cod b.n x) → ((y : Nat × Nat).2 < b.n ∧ y.1 < a.n ∧ y' = cod b.n y) → (x = y ↔ x' = y') := by
    rintro x y x' y' ⟨h1, _, rfl⟩ ⟨h2, _, rfl⟩
    refine ⟨fun e => by rw [e], fun e => ?_⟩
    have e1 := congrArg (· / b.n) e
    have e2 := congrArg (· % b.n) e
    simp only [cod] at e1 e2
    rw [cod_div h1, cod_div h2] at e1
    rw [cod_mod h1, cod_mod h2] at e2
    exact Prod.ext e1 e2
  have hn : ∀ (x : Nat × Nat) (y : Nat), (x.2 < b.n ∧ x.1 < a.n ∧ y = cod b.n x) → ∀ s, s < a.k → ((pnext a b x s).2 < b.n ∧ (pnext a b x s).1 < a.n ∧ cnext a b y s = cod b.n (pnext a b x s)) := by
    rintro x y ⟨h1, h2, rfl⟩ s hs
    refine ⟨hb.stp h1 (by omega), ha.stp h2 hs, ?_⟩
    unfold cnext cod
    rw [cod_div h1, cod_mod h1]; rfl
  unfold prodP cl
  refine mk_sim hR hn ?_ ?_
  · rintro x y ⟨h1, h2, rfl⟩
    unfold cfin cod
    rw [cod_div h1, cod_mod h1]; rfl
  · unfold reach
    exact clos_sim hR hn _ _ (.cons ⟨hb.1.2.1.1, ha.1.2.1.1, by unfold cod; simp⟩ .nil)
theorem prod_cells {l : List Nat} (ha : okD a) (hb : okD b) (hk : a.k = b.k) (h : cl a b = l) : prodP f a b = ⟨a.size, rowsX (cnext a b) a.k l l, finX (cfin f a b) l⟩ := by
  rw [prod_sim ha hb hk, h]
  unfold mkD rowsX finX
  rw [(kk ha).1]
end
/-! the reference's numbers: nought is none -/
def nz (n : Nat) (l : List Nat) : List Nat := (List.range n).map fun c => if c ∈ l then idx l c + 1 else 0
theorem nz_len (n : Nat) (l : List Nat) : (nz n l).length = n := by unfold nz; simp
theorem nz_el {n : Nat} {l : List Nat} {i : Nat} (h : i < (nz n l).length) : (nz n l)[i] = if i ∈ l then idx l i + 1 else 0 := by simp [nz]
theorem nz_get {n : Nat} {l : List Nat} {c : Nat} (hc : c < n) : (nz n l).getD c default = if c ∈ l then idx l c + 1 else 0 := by
  unfold nz; rw [List.getD_eq_getElem?_getD, List.getElem?_map, List.getElem?_range hc]; rfl
theorem nz_nil (n : Nat) : nz n [] = List.replicate n 0 := by
  unfold nz
  refine List.ext_getElem (by simp) fun i h1 h2 => ?_
  simp
theorem nz_snoc {n : Nat} {l : List Nat} {c : Nat} (hc : c < n) (h : c ∉ l) : (nz n l).set c (l ++ [c]).length = nz n (l ++ [c]) := by
  refine List.ext_getElem (by rw [List.length_set, nz_len, nz_len]) fun i h1 h2 => ?_
  rw [List.getElem_set, nz_el, nz_el]
  by_cases q : c = i
  · subst q
    rw [if_pos rfl, if_pos (by simp), idx_snoc h, List.length_append]; rfl
  · rw [if_neg q]
    by_cases q2 : i ∈ l
    · rw [if_pos q2, if_pos (List.mem_append_left _ q2), idx_pre (List.prefix_append l [c]) q2]
    · rw [if_neg q2, if_neg fun q3 => by rcases List.mem_append.1 q3 with q3 | q3; exact q2 q3; exact q (List.mem_singleton.1 q3).symm]
theorem nz_snocI {n : Nat} {l : List Nat} {c : Nat} (hc : c < n) (h : c ∉ l) : ((nz n l).map natI).set c (natI (l ++ [c]).length) = (nz n (l ++ [c])).map natI := by
  rw [← nz_snoc hc h, List.map_set]
theorem nz_new {n c : Nat} {l : List Nat} (hc : c < n) (h : (nz n l).getD c default = 0) : c ∉ l := fun q => by
  rw [nz_get hc, if_pos q] at h; omega
theorem nz_old {n c : Nat} {l : List Nat} (hc : c < n) (h : (nz n l).getD c default ≠ 0) : c ∈ l := Decidable.byContradiction fun q => by
  rw [nz_get hc, if_neg q] at h; exact h rfl
theorem nz_hit {n c : Nat} {l : List Nat} (hc : c < n) (h : c ∈ l) : (nz n l).getD c default = idx l c + 1 := by rw [nz_get hc, if_pos h]
/-! joins -/
def joinZ (f : Bool → Bool → Bool) (a b : Dfa) : Dfa := if validD a = true ∧ validD b = true ∧ a.size = b.size then joinP f a b else zeroD
def joinE (a b : Dfa) : Int := if validD a = true ∧ validD b = true ∧ a.size = b.size then 0 else 1
/-! which word is ahead -/
abbrev ahd (v w : List Nat) : Bool := ahead v w
theorem lex_drop {v w : List Nat} {i : Nat} (hv : i < v.length) (hw : i < w.length) : lexB (v.drop i) (w.drop i) = if v.getD i default = w.getD i default then lexB (v.drop (i + 1)) (w.drop (i + 1)) else decide (v.getD i default < w.getD i default) := by
  rw [List.drop_eq_getElem_cons hv, List.drop_eq_getElem_cons hw, lexB, el_get hv, el_get hw]
theorem ahead_len {v w : List Nat} (h : v.length ≠ w.length) : ahd v w = decide ((v.length : Int) < (w.length : Int)) := (if_pos h : ahead v w = decide (v.length < w.length)).trans (decide_eq_decide.2 Int.ofNat_lt.symm)
theorem ahead_eq {v w : List Nat} (h : v.length = w.length) : ahd v w = lexB (v.drop 0) (w.drop 0) := if_neg (by omega)
theorem ahead_next {v w : List Nat} {i : Nat} (hv : i < v.length) (hw : i < w.length) (h : ahd v w = lexB (v.drop i) (w.drop i)) (e : v.getD i default = w.getD i default) : ahd v w = lexB (v.drop (i + 1)) (w.drop (i + 1)) := by
  rw [h, lex_drop hv hw, if_pos e]
theorem ahead_here {v w : List Nat} {i : Nat} (hv : i < v.length) (hw : i < w.length) (h : ahd v w = lexB (v.drop i) (w.drop i)) (e : v.getD i default ≠ w.getD i default) : ahd v w = decide (((v.getD i default : Nat) : Int) < ((w.getD i default : Nat) : Int)) := by
  rw [h, lex_drop hv hw, if_neg e]
  exact decide_eq_decide.2 Int.ofNat_lt.symm
theorem ahead_done {v w : List Nat} {i : Nat} (hv : v.length ≤ i) (h : ahd v w = lexB (v.drop i) (w.drop i)) : ahd v w = false := by
  rw [h, List.drop_eq_nil_of_le hv, lexB]
end Go.Wd

