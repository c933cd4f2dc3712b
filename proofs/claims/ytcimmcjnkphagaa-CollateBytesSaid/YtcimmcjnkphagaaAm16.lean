/-
  Sorting an array of the call's own by a closure.
-/
import Derived.Test.YtcimmcjnkphagaaAm15
import Derived.Shelf.SlSortCmp.Kit1
namespace Go.Am
open Go.RowKit Go.Sort Go.Proofs
set_option linter.unusedVariables false
/-- What a sorting function does to a row, and that it leaves an empty one alone. -/
structure SortsI (P : Program) (f : FuncId) : Prop where
  callable : Callable P f
  none : ∀ (p : Option Addr) (cap : Nat) (fv : Value) (w : World), Calls P f #[.slice p 0 cap, fv] w fun e w' => e = .returned (.tuple #[]) ∧ w' = w
  some : ∀ {α : Type} [Inhabited α] (enc : α → Value) (h1 : OneCell enc) (cf : α → α → Int) (hO : SWO (ltOf cf)) (g : Nat) (cb : Array Value) (blk off cap : Nat) (d : Array α) (w : World)
    (eg : ∀ args w, (callFunc g args).run P w = .ok (.enter g args) w) (hcmp : CmpLays1 P g cb enc cf blk off d.size w) (hH : Holds enc w blk off d) (hblk : blk < w.heap.size) (hsz : d.size < 4611686018427387904) (hT : ∀ x y, (ltOf cf) x y = false → (ltOf cf) y x = false → x = y),
    Calls P f #[.slice (.some ⟨blk, off, .none⟩) d.size cap, .func (.func g) #[] cb] w fun e w' =>
      e = .returned (.tuple #[]) ∧ ∃ n os, w' = sortWorld enc w blk off n (d.toList.mergeSort fun x y => !(ltOf cf) y x).toArray os

section
variable {α : Type} [Inhabited α] {enc : α → Value}
theorem sortWorld_size (w : World) (blk off m : Nat) (dk : Array α) (os : Array Obj) : (sortWorld enc w blk off m dk os).heap.size = w.heap.size + os.size := by
  simp [sortWorld, grow, putRow, mapBlock, Sort.ahead]
theorem sortWorld_other (w : World) (blk off m : Nat) (dk : Array α) (os : Array Obj) {k : Nat} (hk : k ≠ blk) (hs : k < w.heap.size) : (sortWorld enc w blk off m dk os).heap[k]? = w.heap[k]? := by
  simp only [sortWorld, grow, putRow, mapBlock, Sort.ahead]
  rw [Array.getElem?_append_left (by simpa using hs), Array.getElem?_modify, if_neg (fun h => hk h.symm)]
theorem sortWorld_same (w : World) (blk off m : Nat) (dk : Array α) (os : Array Obj) {c : Array Value} {e : TypeId} {fr : Nat × Nat} (h : w.heap[blk]? = some (.cells c e fr)) : (sortWorld enc w blk off m dk os).heap[blk]? = some (.cells (putCells enc off dk c) e fr) := by
  have hs := (Array.getElem?_eq_some_iff.1 h).1
  simp only [sortWorld, grow, putRow, mapBlock, Sort.ahead]
  rw [Array.getElem?_append_left (by simpa using hs), Array.getElem?_modify, if_pos rfl, h]
  rfl
theorem grow_of_below {w w' : World} (h : Below w.heap.size w w') : ∃ q os, w' = grow (w.drewN q) os := by
  refine ⟨w'.drawn - w.drawn, w'.heap.extract w.heap.size w'.heap.size, ?_⟩
  have hheap : w'.heap = w.heap ++ w'.heap.extract w.heap.size w'.heap.size := by
    apply Array.ext_getElem?
    intro k
    rcases Nat.lt_or_ge k w.heap.size with hk | hk
    · rw [Array.getElem?_append_left hk, h.block k hk]
    · rw [Array.getElem?_append_right hk, Array.getElem?_extract]
      have := h.size
      split
      · congr 1; omega
      · rw [Array.getElem?_eq_none]; omega
  have hd := h.drawn
  obtain ⟨h1, h2, h3, _, _⟩ := h.toBelow
  cases w'
  simp only [grow, World.drewN] at *
  congr
  omega
end

section
variable {P : Program} {w0 : World} {M0 : Nat → Prop}
variable {o : Oper} {s : St} {x y : Operand} {T T' e : TypeId} {c : Cls} {id t : Nat}
theorem flat_sv {α : Type} (f : α → Value) : ∀ l : List α, flat (l.map fun z => AV.sc (f z)) = l.map fun z => .sc (f z)
  | [] => rfl
  | a :: r => by
    have ih := flat_sv f r
    simp only [flat, List.map_cons, List.flatMap_cons, AV.cells, List.cons_append, List.nil_append] at ih ⊢
    rw [ih]
/-- 'slices.SortFunc(xs, cmp)' on an array of the call's own. -/
theorem step_sort {β : Type} {enc : β → Value} {cf : β → β → Int} {p : β → Prop} {l : List β} {f g : FuncId} {caps : List AV} {ats : Array TypeId} (hS : SortsI P f) (ho : o.op = .call { callee := .value (.func f), args := #[x, y], argTypes := ats }) (hd : o.dst = some t) (hn : Nat.blt t s.n = true)
    (hnd : Nodup s.s = true) (hx : s.ev x = some (.own id)) (hl : s.o.lookup id = some (.arr e (l.map fun z => .sc (enc z)))) (hy : s.ev y = some (.v .pl (.clo g caps))) (h1 : ∀ z, (enc z).oneCell' = true) (hk : szOf P e = some 1) (hp : ∀ z ∈ l, p z)
    (hc : ∀ a b : β, p a → p b → CallF P g ([.sc (enc a), .sc (enc b)] ++ caps) (.p (int (cf a b)))) (hg : Callable P g) (hirr : ∀ a, p a → ¬ cf a a < 0) (htr : ∀ a b c, p a → p b → p c → cf a b < 0 → cf b c < 0 → cf a c < 0)
    (htot : ∀ a b, p a → p b → ¬ cf a b < 0 → ¬ cf b a < 0 → a = b) (hsz : l.length < 4611686018427387904) (hM0 : ∀ b, M0 b → b < w0.heap.size) :
    Step P w0 M0 o s ((s.upd false id (.arr e ((l.mergeSort fun x y => !decide (cf y x < 0)).map fun z => .sc (enc z)))).put t (.v .pl (.tup []))) := by
  rintro a w Q ⟨E, hs⟩
  have hxv := hs.ev hx _ _ hl
  have hyv : Rep w (clsM M0 (owned E s.o) .pl) (a.eval y) (.clo g caps) := hs.ev hy
  have hob := hs.wok.objs id _ hl
  obtain ⟨vals, hown, hcl, hrp⟩ := hob
  have hck := cellsOf_of hk
  have hxl : (l.map fun z => AV.sc (enc z)).length = l.length := by simp
  have hvals : vals = l.map enc := by
    apply List.ext_getElem?
    intro j
    have hlen : vals.length = l.length := by have := hown.1; rw [hck] at this; simpa using this
    rcases Nat.lt_or_ge j l.length with hj | hj
    · have h2 := (hrp j (.sc (enc l[j])) (by rw [flat_sv, List.getElem?_map, List.getElem?_eq_getElem hj]; rfl)).2
      rw [List.getD_eq_getElem?_getD, List.getElem?_eq_getElem (by omega), Option.getD_some] at h2
      rw [List.getElem?_eq_getElem (by omega), List.getElem?_map, List.getElem?_eq_getElem hj, Option.map_some]
      congr 1
      generalize vals[j] = u at h2 ⊢
      generalize enc l[j] = u' at h2 ⊢
      cases h2; rfl
    · rw [List.getElem?_eq_none (by omega), List.getElem?_eq_none (by simpa using hj)]
  generalize hq : a.eval y = q at hyv
  cases hyv with
  | clo _ cb _ hnc hr =>
    have hrun : (execOp a.eval o).run P w = .ok (.enter f #[E.cur id, .func (.func g) #[] cb.toArray]) w := by
      have := run_call (P := P) (ev := a.eval) (w := w) (caps := #[]) ho rfl hS.callable
      simpa [hxv, hq] using this
    unfold Oper.wp
    rw [hrun]
    simp only [Oper.upon]
    rcases hown.2 with ⟨hv, hn0⟩ | ⟨gb, cap, cur, hv, hgb, hh, hnc', hcm, hcs, htake⟩
    · -- nothing to sort
      have hl0 : l = [] := List.eq_nil_of_length_eq_zero (by simpa using hn0)
      rw [hv]
      refine (hS.none none 0 _ w).mono fun e' w' ⟨he, hw⟩ => ?_
      subst he; subst hw
      simp only [hd]
      refine ⟨E, SimE.put ?_ (by simpa [St.upd] using hn) (Rep.tup [] [] rfl (fun j d hd => by simp at hd))⟩
      refine hs.upd false (fun _ => ⟨rfl, .inl ⟨e, _, _, hl, rfl, by simp⟩⟩) hnd hM0 (fun i hi => ⟨rfl, rfl⟩) none ⟨rfl, rfl, rfl, Nat.le_refl _, fun _ _ _ => rfl⟩ (Nat.le_refl _) (fun g hg' => by cases hg') (fun b hb => .inl ⟨_, hl, hb⟩) (fun rep sv => ?_)
      subst hl0
      simp only [List.mergeSort_nil, List.map_nil]
      refine ⟨[], ⟨by simp, .inl ⟨hv, rfl⟩⟩, fun x hx => (by cases hx), fun j d hd => (by simp [flat] at hd)⟩
    · rw [hxl] at hv hnc' htake
      rw [hck, Nat.mul_one] at hcs
      rw [hck, Nat.mul_one, hvals] at htake
      rcases Nat.eq_zero_or_pos l.length with hl0 | hpos
      · -- nothing to sort, with room behind
        have hl0 : l = [] := List.eq_nil_of_length_eq_zero hl0
        rw [hv, hl0]
        refine (hS.none _ cap _ w).mono fun e' w' ⟨he, hw⟩ => ?_
        subst he; subst hw
        simp only [hd]
        refine ⟨E, SimE.put ?_ (by simpa [St.upd] using hn) (Rep.tup [] [] rfl (fun j d hd => by simp at hd))⟩
        refine hs.upd false (fun _ => ⟨rfl, .inl ⟨e, _, _, hl, rfl, by simp [hl0]⟩⟩) hnd hM0 (fun i hi => ⟨rfl, rfl⟩) none ⟨rfl, rfl, rfl, Nat.le_refl _, fun _ _ _ => rfl⟩ (Nat.le_refl _) (fun g hg' => by cases hg') (fun b hb => .inl ⟨_, hl, hb⟩) (fun rep sv => ?_)
        simp only [List.mergeSort_nil, List.map_nil]
        refine ⟨[], ⟨by simp, .inr ⟨gb, cap, cur, by rw [hv, hl0]; rfl, hgb, hh, Nat.zero_le _, hcm, by rw [hck, Nat.mul_one]; exact hcs, by simp⟩⟩, fun x hx => (by cases hx), fun j d hd => (by simp [flat] at hd)⟩
      · have hblk : gb < w.heap.size := (Array.getElem?_eq_some_iff.1 hh).1
        have : Inhabited {z // p z} := ⟨⟨l[0], hp _ (List.getElem_mem hpos)⟩⟩
        let d : List {z // p z} := l.attach.map fun z => ⟨z.1, hp z.1 z.2⟩
        have hdl : d.map (·.1) = l := by simp [d, List.map_map, Function.comp_def]
        have hdlen : d.length = l.length := by simp [d]
        let enc' : {z // p z} → Value := fun z => enc z.1
        let cf' : {z // p z} → {z // p z} → Int := fun x y => cf x.1 y.1
        have hO : SWO (ltOf cf') := by
          refine ⟨fun x => by simpa [ltOf, cf'] using hirr x.1 x.2, fun x y z h h' => ?_, fun x y z h h' => ?_⟩
          · simp only [ltOf, cf', decide_eq_true_eq] at h h' ⊢
            exact htr _ _ _ x.2 y.2 z.2 h h'
          · simp only [ltOf, cf', decide_eq_false_iff_not] at h h' ⊢
            intro hxz
            by_cases hyx : cf y.1 x.1 < 0
            · exact h' (htr _ _ _ y.2 x.2 z.2 hyx hxz)
            · have := htot _ _ x.2 y.2 h hyx
              rw [this] at hxz; exact h' hxz
        have hT : ∀ x y, (ltOf cf') x y = false → (ltOf cf') y x = false → x = y := fun x y h h' => by
          simp only [ltOf, cf', decide_eq_false_iff_not] at h h'
          exact Subtype.ext (htot _ _ x.2 y.2 h h')
        have hcurj : ∀ j (hj : j < l.length), cur[j]? = some (enc l[j]) := fun j hj => by
          have : (cur.toList.take l.length)[j]? = some (enc l[j]) := by rw [htake, List.getElem?_map, List.getElem?_eq_getElem hj]; rfl
          rw [List.getElem?_take, if_pos hj, Array.getElem?_toList] at this
          exact this
        have hdj : ∀ j (hj : j < l.length), (d.toArray[j]!).1 = l[j] := fun j hj => by
          rw [getElem!_pos d.toArray j (by simpa [hdlen] using hj)]
          simp [d]
        have hH : Holds enc' w gb 0 d.toArray := by
          intro j hj
          have hj' : j < l.length := by simpa [hdlen] using hj
          refine ⟨?_, ?_⟩
          · simp only [World.cell?, hh, Nat.zero_add, enc', hdj j hj']
            exact hcurj j hj'
          · simp only [World.frozen?, hh]
            simp
        have hcmp : CmpLays1 P g cb.toArray enc' cf' gb 0 d.toArray.size w := by
          intro m os dk hdk x y
          obtain ⟨_, hcall⟩ := hc x.1 y.1 x.2 y.2
          have hsz2 : w.heap.size ≤ (sortWorld enc' w gb 0 m dk os).heap.size := by rw [sortWorld_size]; omega
          have hc2 := hcall (sortWorld enc' w gb 0 m dk os) ([enc' x, enc' y] ++ cb) (by simp [hnc]) (fun j d' hd' => ?_)
          · have e1 : ([enc' x, enc' y] ++ cb).toArray = #[enc' x, enc' y] ++ cb.toArray := by apply Array.ext'; simp
            rw [e1] at hc2
            refine hc2.mono fun e' w' ⟨v, he, hb, hrv⟩ => ⟨?_, grow_of_below hb⟩
            have hrv' : Rep w' _ v (int (cf x.1 y.1)) := hrv
            cases hrv'
            exact he
          · match j with
            | 0 => simp at hd'; subst hd'; exact .sc _ (h1 _)
            | 1 => simp at hd'; subst hd'; exact .sc _ (h1 _)
            | j + 2 =>
              have hd2 : caps[j]? = some d' := by simpa using hd'
              have := hr j d' hd2
              have e2 : ([enc' x, enc' y] ++ cb).getD (j + 2) undef = cb.getD j undef := by simp [List.getD_eq_getElem?_getD]
              rw [e2]
              refine this.mono hsz2 (fun b hb hnM => sortWorld_other _ _ _ _ _ _ (fun he => ?_) hb) (fun b _ _ hf => hf)
              subst he
              exact hnM (.inr ⟨id, _, hl, by simp only [ownB, hv, Value.ownBlock]⟩)
        have eg : ∀ args w, (callFunc g args).run P w = .ok (.enter g args) w := by
          obtain ⟨fn, g1, g2, g3⟩ := hg
          have g3' : fn.body ≠ none := by intro hn; rw [hn] at g3; cases g3
          have g2' : ¬ fn.name = "runtime.NumGoroutine" := by simpa using g2
          intro args w
          simp [callFunc, g1, g2', g3']
        have hcall := hS.some enc' (fun z => h1 z.1) cf' hO g cb.toArray gb 0 cap d.toArray w eg hcmp hH hblk (by simpa [hdlen] using hsz) hT
        have hsd : d.toArray.size = l.length := by simp [hdlen]
        rw [hsd] at hcall
        rw [hv]
        refine hcall.mono fun e' w' ⟨he, n, os, hw⟩ => ?_
        subst he
        simp only [hd]
        have hms : (d.mergeSort fun x y => !(ltOf cf') y x).map (·.1) = l.mergeSort fun x y => !decide (cf y x < 0) := by
          rw [List.map_mergeSort (r := fun x y => !(ltOf cf') y x) (s := fun x y => !decide (cf y x < 0)) (fun a _ b _ => rfl), hdl]
        generalize hdk : (d.mergeSort fun x y => !(ltOf cf') y x).toArray = dk at hw
        have hdk1 : dk.toList.map (·.1) = l.mergeSort fun x y => !decide (cf y x < 0) := by rw [← hdk, List.toList_toArray]; exact hms
        have hdks : dk.size = l.length := by have := congrArg List.length hdk1; simpa using this
        generalize hml : (l.mergeSort fun x y => !decide (cf y x < 0)) = ml at hdk1
        have hmll : ml.length = l.length := by rw [← hml]; simp
        have hdrawn : w.drawn ≤ w'.drawn := by rw [hw]; simp [sortWorld, grow, putRow, mapBlock, Sort.ahead]
        have hgr : w.grownBy w' (some gb) := by
          rw [hw]
          exact ⟨rfl, rfl, rfl, by rw [sortWorld_size]; omega, fun k hk hne => sortWorld_other _ _ _ _ _ _ (fun he => hne (by rw [he])) hk⟩
        have hhw : w'.heap[gb]? = some (.cells (putCells enc' 0 dk cur) e (0, 0)) := by
          have := sortWorld_same (enc := enc') w gb n dk os (off := 0) hh
          rw [hw]; exact this
        refine ⟨E, SimE.put ?_ (by simpa [St.upd] using hn) (Rep.tup [] [] rfl (fun j d hd => by simp at hd))⟩
        refine hs.upd false (fun _ => ⟨rfl, .inl ⟨e, _, _, hl, rfl, by simp [hmll]⟩⟩) hnd hM0 (fun i hi => ⟨rfl, rfl⟩) (some gb) hgr hdrawn (fun g' hg' => ⟨_, hl, by simp only [Option.some.injEq] at hg'; subst hg'; simp only [ownB, hv, Value.ownBlock]⟩) (fun b hb => .inl ⟨_, hl, hb⟩) (fun rep sv => ?_)
        refine ⟨ml.map enc, ⟨by rw [hck]; simp, .inr ⟨gb, cap, _, by rw [hv]; simp [hmll], hgb, hhw, by simpa [hmll] using hnc', hcm, by rw [hck, Nat.mul_one]; simpa [putCells] using hcs, ?_⟩⟩, ?_, fun j d' hd' => ?_⟩
        · rw [hck]
          apply List.ext_getElem?
          intro j
          simp only [List.length_map, Nat.mul_one, hmll]
          rw [List.getElem?_take]
          by_cases hj : j < l.length
          · rw [if_pos hj, Array.getElem?_toList]
            simp only [putCells, Array.getElem?_mapIdx, hcurj j hj, Option.map_some, Nat.zero_le, true_and, Nat.zero_add, hdks, hj, if_true, Nat.sub_zero, enc']
            rw [List.getElem?_map, ← hdk1, List.getElem?_map, Array.getElem?_toList, Array.getElem?_eq_getElem (by omega), Option.map_some, Option.map_some, getElem!_pos dk j (by omega)]
          · rw [if_neg hj, List.getElem?_eq_none (by simp; omega)]
        · intro x hx
          rw [List.mem_map] at hx
          obtain ⟨z, _, rfl⟩ := hx
          rw [hck]; rfl
        · rw [flat_sv, List.getElem?_map, Option.map_eq_some_iff] at hd'
          obtain ⟨z, hz, rfl⟩ := hd'
          refine ⟨rfl, ?_⟩
          rw [List.getD_eq_getElem?_getD, List.getElem?_map, hz]
          exact .sc _ (h1 z)
end
end Go.Am
