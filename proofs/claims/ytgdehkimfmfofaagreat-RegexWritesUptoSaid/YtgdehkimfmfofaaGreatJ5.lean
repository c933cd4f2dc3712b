/-
  Variables in memory; stores; make; small operations on scalars and strings; slices of slices.
-/
import Derived.Test.YtgdehkimfmfofaaGreatJ4
set_option linter.unusedVariables false
set_option linter.unusedSimpArgs false
namespace Go.Am
open Go.RowKit
set_option linter.unusedVariables false

def boxCells : SV → List SV
  | .v c (.agg cs) => cs.map (.v c)
  | d => [d]
def SV.oneV : SV → Bool
  | .v _ (.tup _) => false
  | _ => true
def spl {α : Type} (l : List α) (off : Nat) (m : List α) : List α := l.take off ++ m ++ l.drop (off + m.length)
theorem spl_length {α : Type} {l m : List α} {off : Nat} (h : off + m.length ≤ l.length) : (spl l off m).length = l.length := by simp [spl]; omega
theorem spl_get {α : Type} {l m : List α} {off : Nat} (h : off + m.length ≤ l.length) (j : Nat) : (spl l off m)[j]? = if off ≤ j ∧ j < off + m.length then m[j - off]? else l[j]? := by
  unfold spl
  rw [List.append_assoc]
  have ht : (l.take off).length = off := by simp; omega
  rcases Nat.lt_or_ge j off with h1 | h1
  · rw [List.getElem?_append_left (by omega), List.getElem?_take, if_pos h1, if_neg (by omega)]
  · rw [List.getElem?_append_right (by omega), ht]
    rcases Nat.lt_or_ge (j - off) m.length with h2 | h2
    · rw [List.getElem?_append_left h2, if_pos (by omega)]
    · rw [List.getElem?_append_right h2, List.getElem?_drop, if_neg (by omega)]
      congr 1; omega

section
variable {P : Program} {w0 : Fr} {M0 : Nat → Prop}
variable {o : Oper} {ρ : Operand → Option SV} {ob : List (Nat × Ob)} {d : SV} {x y : Operand} {T T' e : TypeId} {k b : Nat} {c : Cls} {id off : Nat} {cs : List SV} {s : St} {t : Nat}

theorem boxCells_ok {w : World} {E : Env} {ob : List (Nat × Ob)} {v : Value} {d : SV} (h : SVok P M0 w E ob v d) (hd : d ≠ .dead) (h1 : d.oneV = true) (ho : (∃ c a, d = .v c a) ∨ v.oneCell' = true) :
    v.cells.size = (boxCells d).length ∧ ∀ (j : Nat) sv, (boxCells d)[j]? = some sv → SV.leaf sv = true ∧ (v.cells.getD j undef).oneCell' = true ∧ SVok P M0 w E ob (v.cells.getD j undef) sv := by
  have single : ∀ (u : Value), u.oneCell' = true → u.cells = #[u] := by intro u hu; cases u <;> simp_all [Value.cells, Value.oneCell']
  have triv : (∀ sv : SV, boxCells d = [d] → SV.leaf d = true → v.oneCell' = true → v.cells.size = (boxCells d).length ∧ ∀ (j : Nat) sv, (boxCells d)[j]? = some sv → SV.leaf sv = true ∧ (v.cells.getD j undef).oneCell' = true ∧ SVok P M0 w E ob (v.cells.getD j undef) sv) := by
    intro _ hb hl hv
    rw [hb, single v hv]
    refine ⟨rfl, fun j sv hj => ?_⟩
    cases j with
    | zero => simp at hj; subst hj; exact ⟨hl, hv, h⟩
    | succ j => simp at hj
  cases d with
  | v c d =>
    have hnt : ∀ vs, d ≠ .tup vs := fun vs he => by subst he; cases h1
    have hr : Rep w (clsM M0 (owned E ob) c) v d := h
    obtain ⟨g1, g2, g3⟩ := hr.cells hnt
    cases d with
    | agg cs =>
      refine ⟨by simp [g1, boxCells, AV.cells], fun j sv hj => ?_⟩
      simp only [boxCells, List.getElem?_map, Option.map_eq_some_iff] at hj
      obtain ⟨a, ha, rfl⟩ := hj
      have h2 := g2 j a ha
      have h3 := g3 j a ha
      exact ⟨h2, h3.one h2, h3⟩
    | sc u => exact triv .dead rfl rfl (hr.one rfl)
    | sl xs => exact triv .dead rfl rfl (hr.one rfl)
    | tup xs => exact absurd rfl (hnt xs)
    | pc a b => exact triv .dead rfl rfl (hr.one rfl)
    | clo a b => exact triv .dead rfl rfl (hr.one rfl)
    | mp a b => exact triv .dead rfl rfl (hr.one rfl)
  | own i => exact triv .dead rfl rfl (by rcases ho with ⟨c, a, h⟩ | h; cases h; exact h)
  | pel i j q => exact triv .dead rfl rfl (by rcases ho with ⟨c, a, h⟩ | h; cases h; exact h)
  | pbox i q => exact triv .dead rfl rfl (by rcases ho with ⟨c, a, h⟩ | h; cases h; exact h)
  | omap i => exact triv .dead rfl rfl (by rcases ho with ⟨c, a, h⟩ | h; cases h; exact h)
  | vsl i j q => exact triv .dead rfl rfl (by rcases ho with ⟨c, a, h⟩ | h; cases h; exact h)
  | fn i j => exact triv .dead rfl rfl (by rcases ho with ⟨c, a, h⟩ | h; cases h; exact h)
  | dead => exact absurd rfl hd

theorem SimE.newBox {E : Env} {a : Act} {w : World} {cells : Array Value} (h : SimE P w0 M0 E s a w) (hnd : Nodup s.s = true) (hM0 : ∀ b, M0 b → b < w0.w.heap.size) (hpt : t < 1000000) (hl : cells.size = cs.length)
    (hc : ∀ (j : Nat) sv, cs[j]? = some sv → SV.leaf sv = true ∧ (cells.getD j undef).oneCell' = true ∧ SVok P M0 w E s.o (cells.getD j undef) sv ∧ sv.stays true t = true) :
    SimE P w0 M0 { E with blk := fun i => if i = t then w.heap.size else E.blk i } (s.upd true t (.box e cs)) a (w.alloc (.cells cells e)) := by
  refine h.upd true (fun h => by cases h) hnd hM0 (fun i hi => ⟨rfl, by simp [hi]⟩) (.inl (pin_ne hpt)) none (World.grownBy_alloc w _ none) (fun _ => Nat.le_refl _) (fun g hg => by cases hg) (fun b hb => .inr ?_) (fun rep sv => ?_)
  · simp only [ownB, if_true] at hb; omega
  · refine ⟨cells.toList, by simp only [if_true]; simpa using heap_alloc_new w (.cells cells e), by simp only [if_true]; exact h.wok.new_free hM0 (Nat.le_refl _), by simpa using hl, fun j d hd => ?_⟩
    obtain ⟨h1, h2, h3, h4⟩ := hc j d hd
    have e1 : cells.toList.getD j undef = cells.getD j undef := by rw [List.getD_eq_getElem?_getD, Array.getD_eq_getD_getElem?, Array.getElem?_toList]
    rw [e1]
    exact ⟨h1, h2, sv _ _ h3 h4⟩
theorem sv_box_new {w : World} {E : Env} {o : List (Nat × Ob)} {n : Nat} {cs : List SV} : SVok P M0 w { E with blk := fun i => if i = t then n else E.blk i } (ins t (.box e cs) o) (.pointer (some ⟨n, 0, none⟩)) (.pbox t 0) := by
  intro e' cs' _
  simp

theorem step_alloc {zs : List Value} (ho : o.op = .alloc T) (hd : o.dst = some t) (hn : Nat.blt t s.n = true) (hpt : Nat.blt t 1000000 = true) (hnd : Nodup s.s = true) (hz : zeroOf P T = some zs) (hzs : zs.all Value.oneCell' = true) (hM0 : ∀ b, M0 b → b < w0.w.heap.size) :
    Step P w0 M0 o s ((s.upd true t (.box T (zs.map fun z => .v .pl (.sc z)))).put t (.pbox t 0)) := by
  rintro a w Q ⟨E, hs⟩
  unfold zeroOf at hz
  cases hi : P.info? T with
  | none => rw [hi] at hz; cases hz
  | some it =>
    rw [hi] at hz
    simp only [Option.bind_some, Option.map_eq_some_iff] at hz
    obtain ⟨z, hz1, hz2⟩ := hz
    unfold Oper.wp
    have hexec : (execOp a.eval o).run P w = .ok (.value (.pointer (some ⟨w.heap.size, 0, none⟩))) (w.alloc (.cells z.cells T)) := by
      simp [execOp, ho, Instr.alloc, zeroValue, typeInfo, hi, hz1, newVar, newRow]
    rw [hexec]
    simp only [Oper.upon, hd]
    refine ⟨{ E with blk := fun i => if i = t then w.heap.size else E.blk i }, SimE.put ?_ (by simpa [St.upd] using hn) sv_box_new⟩
    refine hs.newBox hnd hM0 (Nat.lt_of_lt_of_le (Nat.lt_of_succ_le (Nat.le_of_ble_eq_true hpt)) (Nat.le_refl _)) (by rw [← hz2]; simp) (fun j sv hj => ?_)
    rw [List.getElem?_map, Option.map_eq_some_iff] at hj
    obtain ⟨u, hu, rfl⟩ := hj
    have h1 : u.oneCell' = true := by rw [List.all_eq_true] at hzs; exact hzs u (List.mem_of_getElem? hu)
    have h2 : z.cells.getD j undef = u := by rw [Array.getD_eq_getD_getElem?, ← Array.getElem?_toList, hz2, hu]; rfl
    rw [h2]
    exact ⟨rfl, h1, .sc u h1, rfl⟩
theorem step_box (ho : o.op = .box T x) (hd : o.dst = some t) (hn : Nat.blt t s.n = true) (hpt : Nat.blt t 1000000 = true) (hnd : Nodup s.s = true) {a0 : AV} (hx : s.ev x = some (.v c a0)) (hnt : notTup a0 = true) (hc : c ≠ .vw) (hM0 : ∀ b, M0 b → b < w0.w.heap.size) :
    Step P w0 M0 o s ((s.upd true t (.box T (boxCells (.v c a0)))).put t (.pbox t 0)) := by
  rintro a w Q ⟨E, hs⟩
  have hv := hs.ev hx
  obtain ⟨g1, g2⟩ := boxCells_ok hv (by simp) (by cases a0 <;> simp_all [SV.oneV, notTup]) (.inl ⟨c, a0, rfl⟩)
  unfold Oper.wp
  have hexec : (execOp a.eval o).run P w = .ok (.value (.pointer (some ⟨w.heap.size, 0, none⟩))) (w.alloc (.cells (a.eval x).cells T)) := by
    simp [execOp, ho, Instr.box, newVar, newRow]
  rw [hexec]
  simp only [Oper.upon, hd]
  refine ⟨{ E with blk := fun i => if i = t then w.heap.size else E.blk i }, SimE.put ?_ (by simpa [St.upd] using hn) sv_box_new⟩
  refine hs.newBox hnd hM0 (Nat.lt_of_lt_of_le (Nat.lt_of_succ_le (Nat.le_of_ble_eq_true hpt)) (Nat.le_refl _)) g1 (fun j sv hj => ?_)
  obtain ⟨h1, h2, h3⟩ := g2 j sv hj
  refine ⟨h1, h2, h3, ?_⟩
  have : ∃ d', sv = .v c d' := by
    cases a0 <;> simp only [boxCells] at hj
    case agg cs => rw [List.getElem?_map, Option.map_eq_some_iff] at hj; obtain ⟨u, _, rfl⟩ := hj; exact ⟨u, rfl⟩
    all_goals (cases j <;> simp at hj; subst hj; exact ⟨_, rfl⟩)
  obtain ⟨d', rfl⟩ := this
  cases c <;> first | rfl | exact absurd rfl hc
theorem pure_box {a0 : AV} (ho : o.op = .box T x) (hx : viewAt ρ ob x = some (c, a0)) (hnt : notTup a0 = true) (hM0 : ∀ b, M0 b → b < w0.w.heap.size) : Pure P w0 M0 o ρ ob (.v c (.pc a0.cells 0)) :=
  pure_value fun E w ev hw h => by
    have hr := viewAt_ok hw h hx
    obtain ⟨g1, g2, g3⟩ := hr.cells (fun vs he => by subst he; cases hnt)
    have hb : BelowD w0.dr w.heap.size w (w.alloc (.cells (ev x).cells T)) := (Below.refl _ _).alloc (Nat.le_refl _) _
    refine ⟨.pointer (some ⟨w.heap.size, 0 + 0, none⟩), w.alloc (.cells (ev x).cells T), by simp [execOp, ho, Instr.box, newVar, newRow], hb,
      .pc _ 0 0 _ (fun j => (ev x).cells.getD j undef) (fun hM => ?_) (by simp) (fun j hj => ?_) g2 (fun j d hd => (g3 j d hd).under hb)⟩
    · cases c with
      | pl =>
        rcases hM with hM | hM
        · have := hM0 _ hM; have := hw.below.size; omega
        · have := (hw.owned_range hM).2; omega
      | mx => have := (hw.owned_range hM).2; omega
      | vw => exact hM
    · rw [cell_of_row _ w.heap.size (0 + j) _ T (0, 0) (heap_alloc_new w _), Nat.zero_add, Array.getD_eq_getD_getElem?, Array.getElem?_eq_getElem (by omega)]; rfl

theorem fldOf_run {f fo fk : Nat} {fg : Bool} (hT : fldOf P T f = some (fo, fk + 1, fg)) (w : World) (g p : Nat) : (Instr.fieldAt T (.pointer (some ⟨g, p, none⟩)) f).run P w = .ok (.pointer (some ⟨g, p + fo, none⟩)) w := by
  unfold fldOf at hT
  split at hT
  · rename_i fs hs
    cases hf : fs[f]? with
    | none => rw [hf] at hT; cases hT
    | some fd =>
      rw [hf] at hT
      simp only [Option.bind_some, Option.bind_eq_some_iff, Option.map_eq_some_iff, Prod.mk.injEq] at hT
      obtain ⟨k1, hk1, g1, hg1, hT1, hT2, _⟩ := hT
      subst hT2
      simp [Instr.fieldAt, run_underlying hs, hf, Instr.sureAddr, fieldPlace, run_size hk1, Addr.add_lit, hT1]
  · cases hT
theorem pure_field_box {f fo fk : Nat} {fg : Bool} (ho : o.op = .fieldAddr T x f) (hT : fldOf P T f = some (fo, fk + 1, fg)) (hx : ρ x = some (.pbox id off)) (hl : ob.lookup id = some (.box e cs)) : Pure P w0 M0 o ρ ob (.pbox id (off + fo)) :=
  pure_value fun E w ev hw h => by
    have hr := h x _ hx e cs hl
    exact ⟨_, w, by simp only [execOp, ho, hr, Sem.run_bind, fldOf_run hT, Result.andThen_ok, Sem.run_pure], .refl _ _, fun e' cs' h' => rfl⟩
theorem pure_field_pel {f fo fk i : Nat} {fg : Bool} {xs : List AV} (ho : o.op = .fieldAddr T x f) (hT : fldOf P T f = some (fo, fk + 1, fg)) (hx : ρ x = some (.pel id i off)) (hl : ob.lookup id = some (.arr e xs)) : Pure P w0 M0 o ρ ob (.pel id i (off + fo)) :=
  pure_value fun E w ev hw h => by
    obtain ⟨hi, g, hg, hr⟩ := h x _ hx e xs hl
    refine ⟨_, w, by simp only [execOp, ho, hr, Sem.run_bind, fldOf_run hT, Result.andThen_ok, Sem.run_pure]; rfl, .refl _ _, fun e' xs' h' => ?_⟩
    rw [hl] at h'
    simp only [Option.some.injEq, Ob.arr.injEq] at h'
    obtain ⟨rfl, rfl⟩ := h'
    exact ⟨hi, g, hg, by rw [Nat.add_assoc]⟩
theorem pure_load_box {sv : SV} (ho : o.op = .load T x) (hT : isAggOf P T = some false) (hx : ρ x = some (.pbox id off)) (hl : ob.lookup id = some (.box e cs)) (he : cs[off]? = some sv) : Pure P w0 M0 o ρ ob sv :=
  pure_value fun E w ev hw h => by
    have hr := h x _ hx e cs hl
    obtain ⟨vals, h1, h2, h3, h4⟩ := hw.objs id _ hl
    refine ⟨vals.getD off undef, w, ?_, .refl _ _, (h4 off sv he).2.2⟩
    have hlt : off < vals.length := by rw [h3]; exact (List.getElem?_eq_some_iff.1 he).1
    have hc : w.cell? ⟨E.blk id, off, none⟩ = some (vals.getD off undef) := by
      rw [cell_of_row w _ off _ e (0, 0) h1]
      simp [List.getD_eq_getElem?_getD, List.getElem?_eq_getElem hlt]
    simp [execOp, ho, hr, Instr.loadAt, Instr.sureAddr, loadVar, run_isAggOf hT, hc]
def cellsView (ob : List (Nat × Ob)) : List SV → Option (Cls × List AV)
  | [] => some (.pl, [])
  | d :: r => match view ob d, cellsView ob r with
    | some (c, a), some (c', as) => bif a.leaf then some (c.max c', a :: as) else none
    | _, _ => none
theorem cellsView_ok {E : Env} {w : World} (hw : WOk P w0 M0 E ob w) : ∀ (l : List SV) (vs : List Value) (c : Cls) (as : List AV), vs.length = l.length → (∀ (j : Nat) d, l[j]? = some d → SVok P M0 w E ob (vs.getD j undef) d) → cellsView ob l = some (c, as) →
    l.length = as.length ∧ ∀ (j : Nat) a, as[j]? = some a → AV.leaf a = true ∧ Rep w (clsM M0 (owned E ob) c) (vs.getD j undef) a
  | [], vs, c, as, _, _, hv => by
    simp only [cellsView, Option.some.injEq, Prod.mk.injEq] at hv
    obtain ⟨rfl, rfl⟩ := hv
    exact ⟨rfl, fun j a h => by simp at h⟩
  | d :: r, vs, c, as, hl, h, hv => by
    cases vs with
    | nil => simp at hl
    | cons v vs =>
      unfold cellsView at hv
      split at hv
      · rename_i c1 a1 c2 as2 h1 h2
        cases hlf : a1.leaf with
        | false => rw [hlf] at hv; cases hv
        | true =>
          rw [hlf] at hv
          simp only [cond_true, Option.some.injEq, Prod.mk.injEq] at hv
          obtain ⟨rfl, rfl⟩ := hv
          obtain ⟨g1, g2⟩ := cellsView_ok hw r vs c2 as2 (by simpa using hl) (fun j d hd => by simpa using h (j + 1) d (by simpa using hd)) h2
          refine ⟨by simp [g1], fun j a ha => ?_⟩
          cases j with
          | zero =>
            simp only [List.getElem?_cons_zero, Option.some.injEq] at ha
            subst ha
            exact ⟨hlf, (view_ok hw (by simpa using h 0 d rfl) h1).weak (clsM_max1 c1 c2)⟩
          | succ j =>
            have := g2 j a (by simpa using ha)
            exact ⟨this.1, by simpa using this.2.weak (clsM_max2 c1 c2)⟩
      · cases hv
theorem pure_load_box_agg {as : List AV} (ho : o.op = .load T x) (hT : isAggOf P T = some true) (hk : szOf P T = some k) (hx : ρ x = some (.pbox id off)) (hl : ob.lookup id = some (.box e cs)) (hle : Nat.ble (off + k) cs.length = true) (hv : cellsView ob ((cs.drop off).take k) = some (c, as)) :
    Pure P w0 M0 o ρ ob (.v c (.agg as)) :=
  pure_value fun E w ev hw h => by
    have hr := h x _ hx e cs hl
    have hle' := Nat.le_of_ble_eq_true hle
    obtain ⟨vals, h1, h2, h3, h4⟩ := hw.objs id _ hl
    have hvl : ((vals.drop off).take k).length = ((cs.drop off).take k).length := by simp; omega
    obtain ⟨g1, g2⟩ := cellsView_ok hw ((cs.drop off).take k) ((vals.drop off).take k) c as hvl (fun j d hd => by
      rw [List.getElem?_take] at hd
      split at hd
      · rename_i hj
        rw [List.getElem?_drop] at hd
        have := (h4 _ d hd).2.2
        rw [List.getD_eq_getElem?_getD] at this ⊢
        rwa [List.getElem?_take, if_pos hj, List.getElem?_drop]
      · cases hd) hv
    have hcell := run_loadCells (P := P) w ⟨E.blk id, off, none⟩ k (fun j => vals.getD (off + j) undef) (fun j hj => by
      rw [Addr.add_lit, cell_of_row w _ (off + j) _ e (0, 0) h1]
      have : off + j < vals.length := by omega
      simp [List.getD_eq_getElem?_getD, List.getElem?_eq_getElem this])
    have hkl : ((vals.drop off).take k).length = k := by simp; omega
    refine ⟨.agg ((vals.drop off).take k).toArray, w, ?_, .refl _ _, .agg _ _ (by rw [hvl, g1]) (fun j d hd => (g2 j d hd).1) (fun j d hd => (g2 j d hd).2)⟩
    have e1 : (List.range k).map (fun j => vals.getD (off + j) undef) = (vals.drop off).take k := by
      apply List.ext_getElem?
      intro j
      simp only [List.getElem?_map, List.getElem?_take, List.getElem?_drop]
      rcases Nat.lt_or_ge j k with hj | hj
      · rw [if_pos hj]
        have : off + j < vals.length := by omega
        simp [hj, List.getD_eq_getElem?_getD, List.getElem?_eq_getElem this]
      · rw [if_neg (by omega)]; simp; omega
    simp only [execOp, ho, hr, Instr.loadAt, Instr.sureAddr, loadVar, Sem.run_bind, run_isAggOf hT, run_size hk, Result.andThen_ok, Sem.run_pure, if_true, hcell, e1]
end
end Go.Am

