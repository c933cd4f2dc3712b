/-
  Variables in memory; stores; make; small operations on scalars and strings; slices of slices.
-/
import Derived.Test.YtjimlkpfmbachaaGreatJ3
set_option linter.unusedVariables false
set_option linter.unusedSectionVars false
set_option linter.unusedSimpArgs false
namespace Go.Am
open Go.RowKit Go.Great
set_option linter.unusedVariables false

def Cls.max : Cls → Cls → Cls
  | .pl, c => c
  | .mx, .pl => .mx
  | .mx, c => c
  | .vw, _ => .vw
theorem clsM_max1 {M0 own : Nat → Prop} (c c' : Cls) (b : Nat) (h : clsM M0 own (c.max c') b) : clsM M0 own c b := by
  cases c <;> cases c' <;> simp_all [Cls.max, clsM]
theorem clsM_max2 {M0 own : Nat → Prop} (c c' : Cls) (b : Nat) (h : clsM M0 own (c.max c') b) : clsM M0 own c' b := by
  cases c <;> cases c' <;> simp_all [Cls.max, clsM]

def zeroOf (P : Program) (t : TypeId) : Option (List Value) := ((P.info? t).bind (·.zero)).map (·.cells.toList)
def placesOf (P : Program) (t : TypeId) : Option (List (Nat × Nat)) :=
  match P.underlying t with
  | some (.struct fields) => fields.toList.mapM fun f => (P.info? f.type).map fun i => (f.offset, i.size)
  | _ => none
def fillA (places : List (Nat × Nat)) (cells : List AV) : List (Nat × AV) → Option (List AV)
  | [] => some cells
  | (i, d) :: r => match places[i]? with
    | none => none
    | some (off, size) => bif Nat.beq d.cells.length size && Nat.ble (off + size) cells.length then fillA places (cells.take off ++ d.cells ++ cells.drop (off + size)) r else none
def RelL (w : World) (M : Nat → Prop) (vs : Array Value) (ds : List AV) : Prop := vs.size = ds.length ∧ ∀ (j : Nat) d, ds[j]? = some d → AV.leaf d = true ∧ Rep w M (vs.getD j undef) d

theorem fill_rel {w : World} {M : Nat → Prop} (places : List (Nat × Nat)) : ∀ (parts : List (Nat × Value)) (ps : List (Nat × AV)) (vs : Array Value) (ds r : List AV), RelL w M vs ds → parts.length = ps.length →
    (∀ (j : Nat) i v i' d, parts[j]? = some (i, v) → ps[j]? = some (i', d) → i = i' ∧ Rep w M v d ∧ ∀ us, d ≠ .tup us) → fillA places ds ps = some r → ∃ vs', Instr.fill (places.toArray[·]?) vs parts = some vs' ∧ RelL w M vs' r
  | [], ps, vs, ds, r, h, hl, hp, hf => by
    cases ps with
    | nil => simp only [fillA, Option.some.injEq] at hf; subst hf; exact ⟨vs, rfl, h⟩
    | cons _ _ => simp at hl
  | (i, v) :: parts, ps, vs, ds, r, h, hl, hp, hf => by
    cases ps with
    | nil => simp at hl
    | cons p ps =>
      obtain ⟨i', d⟩ := p
      obtain ⟨rfl, hrep, hnt⟩ := hp 0 i v i' d rfl rfl
      unfold fillA at hf
      cases hpl : places[i]? with
      | none => rw [hpl] at hf; cases hf
      | some q =>
        obtain ⟨off, size⟩ := q
        rw [hpl] at hf
        simp only [] at hf
        cases hc : (Nat.beq d.cells.length size && Nat.ble (off + size) ds.length) with
        | false => rw [hc] at hf; simp at hf
        | true =>
          rw [hc] at hf
          simp only [cond_true] at hf
          simp only [Bool.and_eq_true] at hc
          have h1 := Nat.eq_of_beq_eq_true hc.1
          have h2 := Nat.le_of_ble_eq_true hc.2
          obtain ⟨g1, g2, g3⟩ := hrep.cells hnt
          have hfs := foldl_set off v.cells.toList 0 vs
          have hz : (v.cells.zipIdx.foldl (fun cs (x : Value × Nat) => cs.setIfInBounds (off + x.2) x.1) vs) = (v.cells.toList.zipIdx 0).foldl (fun cs (x : Value × Nat) => cs.setIfInBounds (off + x.2) x.1) vs := by
            rw [← Array.foldl_toList, Array.toList_zipIdx]
          have ih := fill_rel places parts ps (v.cells.zipIdx.foldl (fun cs (x : Value × Nat) => cs.setIfInBounds (off + x.2) x.1) vs) (ds.take off ++ d.cells ++ ds.drop (off + size)) r ?_ (by simpa using hl)
            (fun j i v i' d hj hj' => hp (j + 1) i v i' d (by simpa using hj) (by simpa using hj')) hf
          · obtain ⟨vs', e1, e2⟩ := ih
            refine ⟨vs', ?_, e2⟩
            unfold Instr.fill
            have hcnd : (v.cells.size ≠ size || off + v.cells.size > vs.size) = false := by
              have e0 := h.1
              simp only [ne_eq, Bool.or_eq_false_iff, decide_eq_false_iff_not, Classical.not_not]
              omega
            simp only [List.getElem?_toArray, hpl]
            rw [if_neg (by simpa using hcnd)]
            simpa using e1
          · rw [hz]
            have hvl : v.cells.toList.length = size := by simp [g1, h1]
            refine ⟨by rw [hfs.1, h.1]; simp; omega, fun j e he => ?_⟩
            rw [Array.getD_eq_getD_getElem?, hfs.2 j]
            simp only [Nat.add_zero]
            rw [List.append_assoc] at he
            rcases Nat.lt_or_ge j off with hj | hj
            · rw [List.getElem?_append_left (by simp; omega), List.getElem?_take, if_pos hj] at he
              rw [if_neg (by omega)]
              have := h.2 j e he
              rwa [Array.getD_eq_getD_getElem?] at this
            · rw [List.getElem?_append_right (by simp; omega)] at he
              have hto : (ds.take off).length = off := by simp; omega
              rw [hto] at he
              rcases Nat.lt_or_ge (j - off) d.cells.length with hj2 | hj2
              · rw [List.getElem?_append_left hj2] at he
                rw [if_pos ⟨hj, by omega, by have := h.1; omega⟩]
                refine ⟨g2 _ e he, ?_⟩
                have := g3 _ e he
                rw [Array.getD_eq_getD_getElem?] at this
                simpa using this
              · rw [List.getElem?_append_right hj2, List.getElem?_drop] at he
                rw [if_neg (by omega)]
                have := h.2 j e (by rw [← he]; congr 1; omega)
                rwa [Array.getD_eq_getD_getElem?] at this

section
variable {P : Program} {w0 : Fr} {M0 : Nat → Prop}
variable {o : Oper} {ρ : Operand → Option SV} {ob : List (Nat × Ob)} {d : SV} {x y : Operand} {T T' e : TypeId} {k b : Nat} {c : Cls}

def notTup : AV → Bool
  | .tup _ => false
  | _ => true
def partsView (ρ : Operand → Option SV) (ob : List (Nat × Ob)) : List (Nat × Operand) → Option (Cls × List (Nat × AV))
  | [] => some (.pl, [])
  | (i, x) :: r => match viewAt ρ ob x, partsView ρ ob r with
    | some (c, d), some (c', ds) => bif notTup d then some (c.max c', (i, d) :: ds) else none
    | _, _ => none
theorem partsView_ok {E : Env} {w : World} {ev : Operand → Value} (hw : WOk P w0 M0 E ob w) (h : ∀ x e, ρ x = some e → SVok P M0 w E ob (ev x) e) : ∀ (l : List (Nat × Operand)) (c : Cls) (ps : List (Nat × AV)), partsView ρ ob l = some (c, ps) →
    l.length = ps.length ∧ ∀ (j : Nat) i x i' d, l[j]? = some (i, x) → ps[j]? = some (i', d) → i = i' ∧ Rep w (clsM M0 (owned E ob) c) (ev x) d ∧ ∀ us, d ≠ .tup us
  | [], c, ps, hp => by
    simp only [partsView, Option.some.injEq, Prod.mk.injEq] at hp
    obtain ⟨rfl, rfl⟩ := hp
    exact ⟨rfl, fun j i x i' d h => by simp at h⟩
  | (i, x) :: r, c, ps, hp => by
    unfold partsView at hp
    split at hp
    · rename_i c1 d1 c2 ds h1 h2
      cases hnt : notTup d1 with
      | false => rw [hnt] at hp; cases hp
      | true =>
        rw [hnt] at hp
        simp only [cond_true, Option.some.injEq, Prod.mk.injEq] at hp
        obtain ⟨rfl, rfl⟩ := hp
        obtain ⟨g1, g2⟩ := partsView_ok hw h r c2 ds h2
        refine ⟨by simp [g1], fun j i' x' i2 d2 hj hj' => ?_⟩
        cases j with
        | zero =>
          simp only [List.getElem?_cons_zero, Option.some.injEq, Prod.mk.injEq] at hj hj'
          obtain ⟨rfl, rfl⟩ := hj
          obtain ⟨rfl, rfl⟩ := hj'
          exact ⟨rfl, (viewAt_ok hw h h1).weak (clsM_max1 c1 c2), fun us hu => by subst hu; cases hnt⟩
        | succ j =>
          have := g2 j i' x' i2 d2 (by simpa using hj) (by simpa using hj')
          exact ⟨this.1, this.2.1.weak (clsM_max2 c1 c2), this.2.2⟩
    · cases hp

theorem pure_build {parts : Array (Nat × Operand)} {places : List (Nat × Nat)} {zs : List Value} {ps : List (Nat × AV)} {r : List AV} (ho : o.op = .build T parts) (hpl : placesOf P T = some places) (hz : zeroOf P T = some zs)
    (hzs : zs.all Value.oneCell' = true) (hp : partsView ρ ob parts.toList = some (c, ps)) (hf : fillA places (zs.map .sc) ps = some r) : Pure P w0 M0 o ρ ob (.v c (.agg r)) :=
  pure_value fun E w ev hw h => by
    obtain ⟨g1, g2⟩ := partsView_ok hw h _ c ps hp
    have hrel : RelL w (clsM M0 (owned E ob) c) zs.toArray (zs.map .sc) := by
      refine ⟨by simp, fun j d hd => ?_⟩
      rw [List.getElem?_map, Option.map_eq_some_iff] at hd
      obtain ⟨z, hz1, rfl⟩ := hd
      refine ⟨rfl, ?_⟩
      have : zs.toArray.getD j undef = z := by simp [Array.getD_eq_getD_getElem?, hz1]
      rw [this]
      exact .sc z (by rw [List.all_eq_true] at hzs; exact hzs z (List.mem_of_getElem? hz1))
    obtain ⟨vs', e1, e2⟩ := fill_rel places ((parts.toList.map fun (p : Nat × Operand) => (p.1, ev p.2))) ps zs.toArray (zs.map .sc) r hrel (by simpa using g1) (fun j i v i' d hj hj' => by
      rw [List.getElem?_map, Option.map_eq_some_iff] at hj
      obtain ⟨⟨i2, x2⟩, hj1, hj2⟩ := hj
      simp only [Prod.mk.injEq] at hj2
      obtain ⟨rfl, rfl⟩ := hj2
      exact g2 j i2 x2 i' d hj1 hj') hf
    have hrun : (Instr.build T (parts.map fun (i, x) => (i, ev x))).run P w = .ok (.agg vs') w := by
      apply run_build
      unfold placesOf at hpl
      unfold zeroOf at hz
      unfold Program.built
      split at hpl
      · rename_i fields hu
        cases hi : P.info? T with
        | none => rw [hi] at hz; cases hz
        | some it =>
          rw [hi] at hz
          simp only [Option.bind_some, Option.map_eq_some_iff] at hz
          obtain ⟨z, hz1, hz2⟩ := hz
          simp only [hu, hz1, hpl]
          have e0 : z.cells = zs.toArray := by rw [← hz2]
          rw [e0, Array.toList_map]
          exact e1
      · cases hpl
    refine ⟨.agg vs', w, by simp [execOp, ho, hrun], .refl _ _, ?_⟩
    have := Rep.agg (w := w) (M := clsM M0 (owned E ob) c) vs'.toList r (by simpa using e2.1) (fun j d hd => (e2.2 j d hd).1) (fun j d hd => by
      have := (e2.2 j d hd).2
      rwa [Array.getD_eq_getD_getElem?, ← Array.getElem?_toList, ← List.getD_eq_getElem?_getD] at this)
    simp only [SVok]; simpa using this

theorem run_literal {w : World} {parts : List Value} {n : Nat} {ps : Array (Nat × Value)} (hT : P.underlying T = some (.slice e)) (hel : elOk P e k b = true) (hps : ps.toList = (parts.zipIdx 0).map fun x => (x.2, x.1)) (hn : parts.length = n) (hc : ∀ v ∈ parts, v.cells.size = k)
    (hsm : n * k ≤ 16777216) (hn0 : 0 < n) : (Instr.buildSlice T n ps).run P w = .ok (.slice (some ⟨w.heap.size, 0, none⟩) n n) (w.alloc (.cells (parts.flatMap fun v => v.cells.toList).toArray e)) := by
  obtain ⟨i, z, hi, hz, hsz, hby, hzs, hk0, hck⟩ := elOk_spec hel
  subst hsz
  have hpos : 0 < n * i.size := Nat.mul_pos hn0 hk0
  refine run_buildSlice (P := P) w T e n ps _ i z hT hi hz (by simp; omega) (by omega) ?_
  rw [hps]
  exact fill_whole hk0 parts _ hc (by simp [hn])

theorem flatMap_cells_get : ∀ (vs : List Value) (ds : List AV), vs.length = ds.length → (∀ (j : Nat) v d, vs[j]? = some v → ds[j]? = some d → v.cells.size = d.cells.length) → (vs.flatMap fun v => v.cells.toList).length = (flat ds).length
  | [], [], _, _ => rfl
  | [], _ :: _, h, _ => by simp at h
  | _ :: _, [], h, _ => by simp at h
  | v :: vs, d :: ds, h, hj => by
    have ih := flatMap_cells_get vs ds (by simpa using h) (fun j v d h1 h2 => hj (j + 1) v d (by simpa using h1) (by simpa using h2))
    have h0 := hj 0 v d rfl rfl
    simp only [flat, List.flatMap_cons, List.length_append] at ih ⊢
    rw [ih]; simp [h0]
theorem flatMap_rel {w : World} {M : Nat → Prop} : ∀ (vs : List Value) (ds : List AV), vs.length = ds.length → (∀ (j : Nat) v d, vs[j]? = some v → ds[j]? = some d → Rep w M v d ∧ ∀ us, d ≠ .tup us) →
    ∀ (j : Nat) d, (flat ds)[j]? = some d → AV.leaf d = true ∧ Rep w M ((vs.flatMap fun v => v.cells.toList).getD j undef) d
  | [], [], _, _, j, d, hd => by simp [flat] at hd
  | [], _ :: _, h, _, _, _, _ => by simp at h
  | _ :: _, [], h, _, _, _, _ => by simp at h
  | v :: vs, d0 :: ds, h, hj, j, d, hd => by
    have ih := flatMap_rel vs ds (by simpa using h) (fun j v d h1 h2 => hj (j + 1) v d (by simpa using h1) (by simpa using h2))
    obtain ⟨hr, hnt⟩ := hj 0 v d0 rfl rfl
    obtain ⟨g1, g2, g3⟩ := hr.cells hnt
    simp only [flat, List.flatMap_cons] at hd ih ⊢
    rcases Nat.lt_or_ge j d0.cells.length with hlt | hge
    · rw [List.getElem?_append_left hlt] at hd
      refine ⟨g2 j d hd, ?_⟩
      rw [List.getD_eq_getElem?_getD, List.getElem?_append_left (by simp [g1]; exact hlt)]
      have := g3 j d hd
      rwa [Array.getD_eq_getD_getElem?, ← Array.getElem?_toList] at this
    · rw [List.getElem?_append_right hge] at hd
      have := ih _ d hd
      refine ⟨this.1, ?_⟩
      rw [List.getD_eq_getElem?_getD, List.getElem?_append_right (by simp [g1]; exact hge)]
      rw [List.getD_eq_getElem?_getD] at this
      simpa [g1] using this.2

def litView (ρ : Operand → Option SV) (ob : List (Nat × Ob)) (k : Nat) : Nat → List (Nat × Operand) → Option (Cls × List AV)
  | _, [] => some (.pl, [])
  | n, (i, x) :: r => bif Nat.beq i n then match viewAt ρ ob x, litView ρ ob k (n + 1) r with
    | some (c, d), some (c', ds) => bif notTup d && Nat.beq d.cells.length k then some (c.max c', d :: ds) else none
    | _, _ => none else none
theorem litView_ok {E : Env} {w : World} {ev : Operand → Value} (hw : WOk P w0 M0 E ob w) (h : ∀ x e, ρ x = some e → SVok P M0 w E ob (ev x) e) : ∀ (l : List (Nat × Operand)) (n : Nat) (c : Cls) (ds : List AV), litView ρ ob k n l = some (c, ds) →
    ∃ vs : List Value, (l.map fun (p : Nat × Operand) => (p.1, ev p.2)) = (vs.zipIdx n).map (fun x => (x.2, x.1)) ∧ vs.length = ds.length ∧ (∀ d ∈ ds, d.cells.length = k) ∧ (∀ v ∈ vs, v.cells.size = k) ∧
      ∀ (j : Nat) v d, vs[j]? = some v → ds[j]? = some d → Rep w (clsM M0 (owned E ob) c) v d ∧ ∀ us, d ≠ .tup us
  | [], n, c, ds, hp => by
    simp only [litView, Option.some.injEq, Prod.mk.injEq] at hp
    obtain ⟨rfl, rfl⟩ := hp
    exact ⟨[], rfl, rfl, by simp, by simp, fun j v d h => by simp at h⟩
  | (i, x) :: r, n, c, ds, hp => by
    unfold litView at hp
    cases hin : Nat.beq i n with
    | false => rw [hin] at hp; cases hp
    | true =>
      rw [hin] at hp
      simp only [cond_true] at hp
      obtain rfl := Nat.eq_of_beq_eq_true hin
      split at hp
      · rename_i c1 d1 c2 ds2 h1 h2
        cases hnt : (notTup d1 && Nat.beq d1.cells.length k) with
        | false => rw [hnt] at hp; cases hp
        | true =>
          rw [hnt] at hp
          simp only [cond_true, Option.some.injEq, Prod.mk.injEq] at hp
          obtain ⟨rfl, rfl⟩ := hp
          simp only [Bool.and_eq_true] at hnt
          have hk := Nat.eq_of_beq_eq_true hnt.2
          have hr := viewAt_ok hw h h1
          have hnt' : ∀ us, d1 ≠ .tup us := fun us hu => by subst hu; cases hnt.1
          obtain ⟨g1, g2, g3⟩ := hr.cells hnt'
          obtain ⟨vs, e1, e2, e3, e4, e5⟩ := litView_ok hw h r (i + 1) c2 ds2 h2
          refine ⟨ev x :: vs, by simp [e1], by simp [e2], ?_, ?_, fun j v d hj hj' => ?_⟩
          · intro d hd
            rcases List.mem_cons.1 hd with rfl | hd
            · exact hk
            · exact e3 d hd
          · intro v hv
            rcases List.mem_cons.1 hv with rfl | hv
            · rw [g1, hk]
            · exact e4 v hv
          · cases j with
            | zero =>
              simp only [List.getElem?_cons_zero, Option.some.injEq] at hj hj'
              subst hj; subst hj'
              exact ⟨hr.weak (clsM_max1 c1 c2), hnt'⟩
            | succ j =>
              have := e5 j v d (by simpa using hj) (by simpa using hj')
              exact ⟨this.1.weak (clsM_max2 c1 c2), this.2⟩
      · cases hp

theorem pure_lit {parts : Array (Nat × Operand)} {n : Nat} {ds : List AV} (ho : o.op = .buildSlice T n parts) (hT : P.underlying T = some (.slice e)) (hel : elOk P e k b = true) (hp : litView ρ ob k 0 parts.toList = some (c, ds))
    (hn : ds.length = n) (hn0 : Nat.blt 0 n = true) (hsm : Nat.ble (n * k) 16777216 = true) (hM0 : ∀ b, M0 b → b < w0.w.heap.size) : Pure P w0 M0 o ρ ob (.v c (.sl ds)) :=
  pure_value fun E w ev hw h => by
    obtain ⟨vs, e1, e2, e3, e4, e5⟩ := litView_ok hw h _ 0 c ds hp
    have hrun := run_literal (P := P) (w := w) (n := n) (ps := parts.map fun (i, x) => (i, ev x)) hT hel (by rw [Array.toList_map]; exact e1) (by rw [e2, hn]) e4 (Nat.le_of_ble_eq_true hsm) (by simpa using hn0)
    refine ⟨_, _, by simp only [execOp, ho, Sem.run_bind, hrun, Result.andThen_ok, Sem.run_pure]; rfl, (Below.refl _ _).alloc (Nat.le_refl _) _, ?_⟩
    have hlen := flatMap_cells_get vs ds e2 (fun j v d h1 h2 => ((e5 j v d h1 h2).1.cells (e5 j v d h1 h2).2).1)
    have hrel := flatMap_rel vs ds e2 e5
    have hfl := flat_length ds e3
    have hb : BelowD w0.dr w.heap.size w (w.alloc (.cells (vs.flatMap fun v => v.cells.toList).toArray e)) := (Below.refl _ _).alloc (Nat.le_refl _) _
    refine .sl _ n n ds k (fun j => (vs.flatMap fun v => v.cells.toList).getD j undef) hn (Nat.le_refl _) e3 (fun h0 => ⟨w.heap.size, 0, rfl, fun hM => ?_, by simp, fun j hj => ?_⟩) (fun j d hd => (hrel j d hd).1) (fun j d hd => ((hrel j d hd).2).under hb)
    · cases c with
      | pl =>
        rcases hM with hM | hM
        · have := hM0 _ hM; have := hw.below.size; omega
        · have := (hw.owned_range hM).2; omega
      | mx => have := (hw.owned_range hM).2; omega
      | vw => exact hM
    · have hj' : j < (vs.flatMap fun v => v.cells.toList).length := by rw [hlen, hfl, hn]; exact hj
      rw [cell_of_row _ w.heap.size (0 + j) _ e (0, 0) (heap_alloc_new w _), Nat.zero_add]
      simp [List.getD_eq_getElem?_getD, List.getElem?_eq_getElem hj']

theorem step_lit {s : St} {t : Nat} {parts : Array (Nat × Operand)} {n : Nat} {ds : List AV} (ho : o.op = .buildSlice T n parts) (hd : o.dst = some t) (hn : Nat.blt t s.n = true) (hnd : Nodup s.s = true) (hT : P.underlying T = some (.slice e)) (hel : elOk P e k b = true)
    (hp : litView s.ev s.o k 0 parts.toList = some (.pl, ds)) (hnn : ds.length = n) (hn0 : Nat.blt 0 n = true) (hsm : Nat.ble (n * k) 16777216 = true) (hM0 : ∀ b, M0 b → b < w0.w.heap.size) : Step P w0 M0 o s ((s.upd true t (.arr e ds)).put t (.own t)) := by
  rintro a w Q ⟨E, hs⟩
  obtain ⟨i, z, hi, hz, hsz, hby, hzs, hk0, hck⟩ := elOk_spec hel
  obtain ⟨vs, e1, e2, e3, e4, e5⟩ := litView_ok hs.wok (fun x e hx => hs.ev hx) _ 0 .pl ds hp
  have hrun := run_literal (P := P) (w := w) (n := n) (ps := parts.map fun (i, x) => (i, a.eval x)) hT hel (by rw [Array.toList_map]; exact e1) (by rw [e2, hnn]) e4 (Nat.le_of_ble_eq_true hsm) (by simpa using hn0)
  have hlen := flatMap_cells_get vs ds e2 (fun j v d h1 h2 => ((e5 j v d h1 h2).1.cells (e5 j v d h1 h2).2).1)
  have hrel := flatMap_rel vs ds e2 e5
  have hfl := flat_length ds e3
  unfold Oper.wp
  have hexec : (execOp a.eval o).run P w = .ok (.value (.slice (some ⟨w.heap.size, 0, none⟩) n n)) (w.alloc (.cells (vs.flatMap fun v => v.cells.toList).toArray e)) := by
    simp only [execOp, ho, Sem.run_bind, hrun, Result.andThen_ok, Sem.run_pure]
  rw [hexec]
  simp only [Oper.upon, hd]
  refine ⟨{ E with cur := fun i => if i = t then .slice (some ⟨w.heap.size, 0, none⟩) n n else E.cur i }, SimE.put ?_ (by simpa [St.upd] using hn) sv_own_new⟩
  refine hs.newArr hnd hM0 (World.grownBy_alloc w _ none) (fun _ => Nat.le_refl _) (vals := vs.flatMap fun v => v.cells.toList) ⟨by rw [hlen, hfl, hck], .inr ⟨w.heap.size, n, _, by rw [hnn], Nat.zero_le _, heap_alloc_new w _, by rw [hnn]; exact Nat.le_refl _, ?_, ?_, ?_⟩⟩ (fun b hb => ?_) (by rw [hck]; exact e3) (fun j d hd => ⟨(hrel j d hd).1, .inl (hrel j d hd).2⟩)
  · have h1 := Nat.le_of_ble_eq_true hsm
    have h2 : n ≤ n * k := Nat.le_mul_of_pos_right n hk0
    simp only [maxLen]; omega
  · rw [hck, List.size_toArray, hlen, hfl, hnn]
  · rw [hck, hnn]
    exact List.take_of_length_le (by rw [hlen, hfl, hnn]; exact Nat.le_refl _)
  · simp only [Value.ownBlock, Option.some.injEq] at hb; omega
theorem step_lit0 {s : St} {t : Nat} {parts : Array (Nat × Operand)} (ho : o.op = .buildSlice T 0 parts) (hp : parts.toList = []) (hd : o.dst = some t) (hn : Nat.blt t s.n = true) (hnd : Nodup s.s = true) (hT : P.underlying T = some (.slice e)) (hel : elOk P e k b = true)
    (hM0 : ∀ b, M0 b → b < w0.w.heap.size) : Step P w0 M0 o s ((s.upd true t (.arr e [])).put t (.own t)) := by
  rintro a w Q ⟨E, hs⟩
  obtain ⟨i, z, hi, hz, hsz, hby, hzs, hk0, hck⟩ := elOk_spec hel
  have hp' : parts = #[] := by rw [← Array.toList_eq_nil_iff]; exact hp
  subst hp'
  have hrun : (Instr.buildSlice T 0 #[]).run P w = .ok (.slice (some ⟨w.heap.size, 0, none⟩) 0 0) (w.alloc (.cells #[] e)) := by
    have h0 : Array.range 0 = #[] := rfl
    simp [Instr.buildSlice, run_underlying hT, sizeOf, typeInfo, hi, Instr.fill, newRow, h0]
    try rfl
  unfold Oper.wp
  have hexec : (execOp a.eval o).run P w = .ok (.value (.slice (some ⟨w.heap.size, 0, none⟩) 0 0)) (w.alloc (.cells #[] e)) := by
    simp only [execOp, ho, Sem.run_bind, List.map_toArray, List.map_nil, hrun, Result.andThen_ok, Sem.run_pure]
  rw [hexec]
  simp only [Oper.upon, hd]
  refine ⟨{ E with cur := fun i => if i = t then .slice (some ⟨w.heap.size, 0, none⟩) 0 0 else E.cur i }, SimE.put ?_ (by simpa [St.upd] using hn) sv_own_new⟩
  refine hs.newArr hnd hM0 (World.grownBy_alloc w _ none) (fun _ => Nat.le_refl _) (vals := []) ⟨by simp, .inr ⟨w.heap.size, 0, _, rfl, Nat.zero_le _, heap_alloc_new w _, Nat.le_refl _, by simp [maxLen], by simp, by simp⟩⟩ (fun b hb => ?_) (by simp) (fun j d hd => by simp [flat] at hd)
  simp only [Value.ownBlock, Option.some.injEq] at hb; omega
end
end Go.Am

namespace Go.Am
open Go.RowKit
set_option linter.unusedVariables false

def boxCells : SV → List SV
  | .v c (.agg cs) => cs.map (.v c)
  | d => [d]
def SV.oneV : SV → Bool
  | .v _ (.tup _) => false
  | _ => true
def spl {α : Type} (l : List α) (off : Nat) (m : List α) : List α := l.take off ++ m ++ l.drop (off + m.length)
theorem spl_length {α : Type} {l m : List α} {off : Nat} (h : off + m.length ≤ l.length) : (spl l off m).length = l.length := by simp [spl]; omega
theorem spl_get {α : Type} {l m : List α} {off : Nat} (h : off + m.length ≤ l.length) (j : Nat) : (spl l off m)[j]? = if off ≤ j ∧ j < off + m.length then m[j - off]? else l[j]? := by
  unfold spl
  rw [List.append_assoc]
  have ht : (l.take off).length = off := by simp; omega
  rcases Nat.lt_or_ge j off with h1 | h1
  · rw [List.getElem?_append_left (by omega), List.getElem?_take, if_pos h1, if_neg (by omega)]
  · rw [List.getElem?_append_right (by omega), ht]
    rcases Nat.lt_or_ge (j - off) m.length with h2 | h2
    · rw [List.getElem?_append_left h2, if_pos (by omega)]
    · rw [List.getElem?_append_right h2, List.getElem?_drop, if_neg (by omega)]
      congr 1; omega

section
variable {P : Program} {w0 : Fr} {M0 : Nat → Prop}
variable {o : Oper} {ρ : Operand → Option SV} {ob : List (Nat × Ob)} {d : SV} {x y : Operand} {T T' e : TypeId} {k b : Nat} {c : Cls} {id off : Nat} {cs : List SV} {s : St} {t : Nat}

theorem boxCells_ok {w : World} {E : Env} {ob : List (Nat × Ob)} {v : Value} {d : SV} (h : SVok P M0 w E ob v d) (hd : d ≠ .dead) (h1 : d.oneV = true) (ho : (∃ c a, d = .v c a) ∨ v.oneCell' = true) :
    v.cells.size = (boxCells d).length ∧ ∀ (j : Nat) sv, (boxCells d)[j]? = some sv → SV.leaf sv = true ∧ (v.cells.getD j undef).oneCell' = true ∧ SVok P M0 w E ob (v.cells.getD j undef) sv := by
  have single : ∀ (u : Value), u.oneCell' = true → u.cells = #[u] := by intro u hu; cases u <;> simp_all [Value.cells, Value.oneCell']
  have triv : (∀ sv : SV, boxCells d = [d] → SV.leaf d = true → v.oneCell' = true → v.cells.size = (boxCells d).length ∧ ∀ (j : Nat) sv, (boxCells d)[j]? = some sv → SV.leaf sv = true ∧ (v.cells.getD j undef).oneCell' = true ∧ SVok P M0 w E ob (v.cells.getD j undef) sv) := by
    intro _ hb hl hv
    rw [hb, single v hv]
    refine ⟨rfl, fun j sv hj => ?_⟩
    cases j with
    | zero => simp at hj; subst hj; exact ⟨hl, hv, h⟩
    | succ j => simp at hj
  cases d with
  | v c d =>
    have hnt : ∀ vs, d ≠ .tup vs := fun vs he => by subst he; cases h1
    have hr : Rep w (clsM M0 (owned E ob) c) v d := h
    obtain ⟨g1, g2, g3⟩ := hr.cells hnt
    cases d with
    | agg cs =>
      refine ⟨by simp [g1, boxCells, AV.cells], fun j sv hj => ?_⟩
      simp only [boxCells, List.getElem?_map, Option.map_eq_some_iff] at hj
      obtain ⟨a, ha, rfl⟩ := hj
      have h2 := g2 j a ha
      have h3 := g3 j a ha
      exact ⟨h2, h3.one h2, h3⟩
    | sc u => exact triv .dead rfl rfl (hr.one rfl)
    | sl xs => exact triv .dead rfl rfl (hr.one rfl)
    | tup xs => exact absurd rfl (hnt xs)
    | pc a b => exact triv .dead rfl rfl (hr.one rfl)
    | clo a b => exact triv .dead rfl rfl (hr.one rfl)
    | mp a b => exact triv .dead rfl rfl (hr.one rfl)
  | own i => exact triv .dead rfl rfl (by rcases ho with ⟨c, a, h⟩ | h; cases h; exact h)
  | pel i j q => exact triv .dead rfl rfl (by rcases ho with ⟨c, a, h⟩ | h; cases h; exact h)
  | pbox i q => exact triv .dead rfl rfl (by rcases ho with ⟨c, a, h⟩ | h; cases h; exact h)
  | omap i => exact triv .dead rfl rfl (by rcases ho with ⟨c, a, h⟩ | h; cases h; exact h)
  | vsl i j q => exact triv .dead rfl rfl (by rcases ho with ⟨c, a, h⟩ | h; cases h; exact h)
  | fn i j => exact triv .dead rfl rfl (by rcases ho with ⟨c, a, h⟩ | h; cases h; exact h)
  | dead => exact absurd rfl hd

theorem SimE.newBox {E : Env} {a : Act} {w : World} {cells : Array Value} (h : SimE P w0 M0 E s a w) (hnd : Nodup s.s = true) (hM0 : ∀ b, M0 b → b < w0.w.heap.size) (hpt : t < 1000000) (hl : cells.size = cs.length)
    (hc : ∀ (j : Nat) sv, cs[j]? = some sv → SV.leaf sv = true ∧ (cells.getD j undef).oneCell' = true ∧ SVok P M0 w E s.o (cells.getD j undef) sv ∧ sv.stays true t = true) :
    SimE P w0 M0 { E with blk := fun i => if i = t then w.heap.size else E.blk i } (s.upd true t (.box e cs)) a (w.alloc (.cells cells e)) := by
  refine h.upd true (fun h => by cases h) hnd hM0 (fun i hi => ⟨rfl, by simp [hi]⟩) (.inl (pin_ne hpt)) none (World.grownBy_alloc w _ none) (fun _ => Nat.le_refl _) (fun g hg => by cases hg) (fun b hb => .inr ?_) (fun rep sv => ?_)
  · simp only [ownB, if_true] at hb; omega
  · refine ⟨cells.toList, by simp only [if_true]; simpa using heap_alloc_new w (.cells cells e), by simp only [if_true]; exact h.wok.new_free hM0 (Nat.le_refl _), by simpa using hl, fun j d hd => ?_⟩
    obtain ⟨h1, h2, h3, h4⟩ := hc j d hd
    have e1 : cells.toList.getD j undef = cells.getD j undef := by rw [List.getD_eq_getElem?_getD, Array.getD_eq_getD_getElem?, Array.getElem?_toList]
    rw [e1]
    exact ⟨h1, h2, sv _ _ h3 h4⟩
theorem sv_box_new {w : World} {E : Env} {o : List (Nat × Ob)} {n : Nat} {cs : List SV} : SVok P M0 w { E with blk := fun i => if i = t then n else E.blk i } (ins t (.box e cs) o) (.pointer (some ⟨n, 0, none⟩)) (.pbox t 0) := by
  intro e' cs' _
  simp

theorem step_alloc {zs : List Value} (ho : o.op = .alloc T) (hd : o.dst = some t) (hn : Nat.blt t s.n = true) (hpt : Nat.blt t 1000000 = true) (hnd : Nodup s.s = true) (hz : zeroOf P T = some zs) (hzs : zs.all Value.oneCell' = true) (hM0 : ∀ b, M0 b → b < w0.w.heap.size) :
    Step P w0 M0 o s ((s.upd true t (.box T (zs.map fun z => .v .pl (.sc z)))).put t (.pbox t 0)) := by
  rintro a w Q ⟨E, hs⟩
  unfold zeroOf at hz
  cases hi : P.info? T with
  | none => rw [hi] at hz; cases hz
  | some it =>
    rw [hi] at hz
    simp only [Option.bind_some, Option.map_eq_some_iff] at hz
    obtain ⟨z, hz1, hz2⟩ := hz
    unfold Oper.wp
    have hexec : (execOp a.eval o).run P w = .ok (.value (.pointer (some ⟨w.heap.size, 0, none⟩))) (w.alloc (.cells z.cells T)) := by
      simp [execOp, ho, Instr.alloc, zeroValue, typeInfo, hi, hz1, newVar, newRow]
    rw [hexec]
    simp only [Oper.upon, hd]
    refine ⟨{ E with blk := fun i => if i = t then w.heap.size else E.blk i }, SimE.put ?_ (by simpa [St.upd] using hn) sv_box_new⟩
    refine hs.newBox hnd hM0 (Nat.lt_of_lt_of_le (Nat.lt_of_succ_le (Nat.le_of_ble_eq_true hpt)) (Nat.le_refl _)) (by rw [← hz2]; simp) (fun j sv hj => ?_)
    rw [List.getElem?_map, Option.map_eq_some_iff] at hj
    obtain ⟨u, hu, rfl⟩ := hj
    have h1 : u.oneCell' = true := by rw [List.all_eq_true] at hzs; exact hzs u (List.mem_of_getElem? hu)
    have h2 : z.cells.getD j undef = u := by rw [Array.getD_eq_getD_getElem?, ← Array.getElem?_toList, hz2, hu]; rfl
    rw [h2]
    exact ⟨rfl, h1, .sc u h1, rfl⟩
theorem step_box (ho : o.op = .box T x) (hd : o.dst = some t) (hn : Nat.blt t s.n = true) (hpt : Nat.blt t 1000000 = true) (hnd : Nodup s.s = true) {a0 : AV} (hx : s.ev x = some (.v c a0)) (hnt : notTup a0 = true) (hc : c ≠ .vw) (hM0 : ∀ b, M0 b → b < w0.w.heap.size) :
    Step P w0 M0 o s ((s.upd true t (.box T (boxCells (.v c a0)))).put t (.pbox t 0)) := by
  rintro a w Q ⟨E, hs⟩
  have hv := hs.ev hx
  obtain ⟨g1, g2⟩ := boxCells_ok hv (by simp) (by cases a0 <;> simp_all [SV.oneV, notTup]) (.inl ⟨c, a0, rfl⟩)
  unfold Oper.wp
  have hexec : (execOp a.eval o).run P w = .ok (.value (.pointer (some ⟨w.heap.size, 0, none⟩))) (w.alloc (.cells (a.eval x).cells T)) := by
    simp [execOp, ho, Instr.box, newVar, newRow]
  rw [hexec]
  simp only [Oper.upon, hd]
  refine ⟨{ E with blk := fun i => if i = t then w.heap.size else E.blk i }, SimE.put ?_ (by simpa [St.upd] using hn) sv_box_new⟩
  refine hs.newBox hnd hM0 (Nat.lt_of_lt_of_le (Nat.lt_of_succ_le (Nat.le_of_ble_eq_true hpt)) (Nat.le_refl _)) g1 (fun j sv hj => ?_)
  obtain ⟨h1, h2, h3⟩ := g2 j sv hj
  refine ⟨h1, h2, h3, ?_⟩
  have : ∃ d', sv = .v c d' := by
    cases a0 <;> simp only [boxCells] at hj
    case agg cs => rw [List.getElem?_map, Option.map_eq_some_iff] at hj; obtain ⟨u, _, rfl⟩ := hj; exact ⟨u, rfl⟩
    all_goals (cases j <;> simp at hj; subst hj; exact ⟨_, rfl⟩)
  obtain ⟨d', rfl⟩ := this
  cases c <;> first | rfl | exact absurd rfl hc
theorem pure_box {a0 : AV} (ho : o.op = .box T x) (hx : viewAt ρ ob x = some (c, a0)) (hnt : notTup a0 = true) (hM0 : ∀ b, M0 b → b < w0.w.heap.size) : Pure P w0 M0 o ρ ob (.v c (.pc a0.cells 0)) :=
  pure_value fun E w ev hw h => by
    have hr := viewAt_ok hw h hx
    obtain ⟨g1, g2, g3⟩ := hr.cells (fun vs he => by subst he; cases hnt)
    have hb : BelowD w0.dr w.heap.size w (w.alloc (.cells (ev x).cells T)) := (Below.refl _ _).alloc (Nat.le_refl _) _
    refine ⟨.pointer (some ⟨w.heap.size, 0 + 0, none⟩), w.alloc (.cells (ev x).cells T), by simp [execOp, ho, Instr.box, newVar, newRow], hb,
      .pc _ 0 0 _ (fun j => (ev x).cells.getD j undef) (fun hM => ?_) (by simp) (fun j hj => ?_) g2 (fun j d hd => (g3 j d hd).under hb)⟩
    · cases c with
      | pl =>
        rcases hM with hM | hM
        · have := hM0 _ hM; have := hw.below.size; omega
        · have := (hw.owned_range hM).2; omega
      | mx => have := (hw.owned_range hM).2; omega
      | vw => exact hM
    · rw [cell_of_row _ w.heap.size (0 + j) _ T (0, 0) (heap_alloc_new w _), Nat.zero_add, Array.getD_eq_getD_getElem?, Array.getElem?_eq_getElem (by omega)]; rfl

theorem fldOf_run {f fo fk : Nat} {fg : Bool} (hT : fldOf P T f = some (fo, fk + 1, fg)) (w : World) (g p : Nat) : (Instr.fieldAt T (.pointer (some ⟨g, p, none⟩)) f).run P w = .ok (.pointer (some ⟨g, p + fo, none⟩)) w := by
  unfold fldOf at hT
  split at hT
  · rename_i fs hs
    cases hf : fs[f]? with
    | none => rw [hf] at hT; cases hT
    | some fd =>
      rw [hf] at hT
      simp only [Option.bind_some, Option.bind_eq_some_iff, Option.map_eq_some_iff, Prod.mk.injEq] at hT
      obtain ⟨k1, hk1, g1, hg1, hT1, hT2, _⟩ := hT
      subst hT2
      simp [Instr.fieldAt, run_underlying hs, hf, Instr.sureAddr, fieldPlace, run_size hk1, Addr.add_lit, hT1]
  · cases hT
theorem pure_field_box {f fo fk : Nat} {fg : Bool} (ho : o.op = .fieldAddr T x f) (hT : fldOf P T f = some (fo, fk + 1, fg)) (hx : ρ x = some (.pbox id off)) (hl : ob.lookup id = some (.box e cs)) : Pure P w0 M0 o ρ ob (.pbox id (off + fo)) :=
  pure_value fun E w ev hw h => by
    have hr := h x _ hx e cs hl
    exact ⟨_, w, by simp only [execOp, ho, hr, Sem.run_bind, fldOf_run hT, Result.andThen_ok, Sem.run_pure], .refl _ _, fun e' cs' h' => rfl⟩
theorem pure_field_pel {f fo fk i : Nat} {fg : Bool} {xs : List AV} (ho : o.op = .fieldAddr T x f) (hT : fldOf P T f = some (fo, fk + 1, fg)) (hx : ρ x = some (.pel id i off)) (hl : ob.lookup id = some (.arr e xs)) : Pure P w0 M0 o ρ ob (.pel id i (off + fo)) :=
  pure_value fun E w ev hw h => by
    obtain ⟨hi, g, hg, hr⟩ := h x _ hx e xs hl
    refine ⟨_, w, by simp only [execOp, ho, hr, Sem.run_bind, fldOf_run hT, Result.andThen_ok, Sem.run_pure]; rfl, .refl _ _, fun e' xs' h' => ?_⟩
    rw [hl] at h'
    simp only [Option.some.injEq, Ob.arr.injEq] at h'
    obtain ⟨rfl, rfl⟩ := h'
    exact ⟨hi, g, hg, by rw [Nat.add_assoc]⟩
theorem pure_load_box {sv : SV} (ho : o.op = .load T x) (hT : isAggOf P T = some false) (hx : ρ x = some (.pbox id off)) (hl : ob.lookup id = some (.box e cs)) (he : cs[off]? = some sv) : Pure P w0 M0 o ρ ob sv :=
  pure_value fun E w ev hw h => by
    have hr := h x _ hx e cs hl
    obtain ⟨vals, h1, h2, h3, h4⟩ := hw.objs id _ hl
    refine ⟨vals.getD off undef, w, ?_, .refl _ _, (h4 off sv he).2.2⟩
    have hlt : off < vals.length := by rw [h3]; exact (List.getElem?_eq_some_iff.1 he).1
    have hc : w.cell? ⟨E.blk id, off, none⟩ = some (vals.getD off undef) := by
      rw [cell_of_row w _ off _ e (0, 0) h1]
      simp [List.getD_eq_getElem?_getD, List.getElem?_eq_getElem hlt]
    simp [execOp, ho, hr, Instr.loadAt, Instr.sureAddr, loadVar, run_isAggOf hT, hc]
def cellsView (ob : List (Nat × Ob)) : List SV → Option (Cls × List AV)
  | [] => some (.pl, [])
  | d :: r => match view ob d, cellsView ob r with
    | some (c, a), some (c', as) => bif a.leaf then some (c.max c', a :: as) else none
    | _, _ => none
theorem cellsView_ok {E : Env} {w : World} (hw : WOk P w0 M0 E ob w) : ∀ (l : List SV) (vs : List Value) (c : Cls) (as : List AV), vs.length = l.length → (∀ (j : Nat) d, l[j]? = some d → SVok P M0 w E ob (vs.getD j undef) d) → cellsView ob l = some (c, as) →
    l.length = as.length ∧ ∀ (j : Nat) a, as[j]? = some a → AV.leaf a = true ∧ Rep w (clsM M0 (owned E ob) c) (vs.getD j undef) a
  | [], vs, c, as, _, _, hv => by
    simp only [cellsView, Option.some.injEq, Prod.mk.injEq] at hv
    obtain ⟨rfl, rfl⟩ := hv
    exact ⟨rfl, fun j a h => by simp at h⟩
  | d :: r, vs, c, as, hl, h, hv => by
    cases vs with
    | nil => simp at hl
    | cons v vs =>
      unfold cellsView at hv
      split at hv
      · rename_i c1 a1 c2 as2 h1 h2
        cases hlf : a1.leaf with
        | false => rw [hlf] at hv; cases hv
        | true =>
          rw [hlf] at hv
          simp only [cond_true, Option.some.injEq, Prod.mk.injEq] at hv
          obtain ⟨rfl, rfl⟩ := hv
          obtain ⟨g1, g2⟩ := cellsView_ok hw r vs c2 as2 (by simpa using hl) (fun j d hd => by simpa using h (j + 1) d (by simpa using hd)) h2
          refine ⟨by simp [g1], fun j a ha => ?_⟩
          cases j with
          | zero =>
            simp only [List.getElem?_cons_zero, Option.some.injEq] at ha
            subst ha
            exact ⟨hlf, (view_ok hw (by simpa using h 0 d rfl) h1).weak (clsM_max1 c1 c2)⟩
          | succ j =>
            have := g2 j a (by simpa using ha)
            exact ⟨this.1, by simpa using this.2.weak (clsM_max2 c1 c2)⟩
      · cases hv
theorem pure_load_box_agg {as : List AV} (ho : o.op = .load T x) (hT : isAggOf P T = some true) (hk : szOf P T = some k) (hx : ρ x = some (.pbox id off)) (hl : ob.lookup id = some (.box e cs)) (hle : Nat.ble (off + k) cs.length = true) (hv : cellsView ob ((cs.drop off).take k) = some (c, as)) :
    Pure P w0 M0 o ρ ob (.v c (.agg as)) :=
  pure_value fun E w ev hw h => by
    have hr := h x _ hx e cs hl
    have hle' := Nat.le_of_ble_eq_true hle
    obtain ⟨vals, h1, h2, h3, h4⟩ := hw.objs id _ hl
    have hvl : ((vals.drop off).take k).length = ((cs.drop off).take k).length := by simp; omega
    obtain ⟨g1, g2⟩ := cellsView_ok hw ((cs.drop off).take k) ((vals.drop off).take k) c as hvl (fun j d hd => by
      rw [List.getElem?_take] at hd
      split at hd
      · rename_i hj
        rw [List.getElem?_drop] at hd
        have := (h4 _ d hd).2.2
        rw [List.getD_eq_getElem?_getD] at this ⊢
        rwa [List.getElem?_take, if_pos hj, List.getElem?_drop]
      · cases hd) hv
    have hcell := run_loadCells (P := P) w ⟨E.blk id, off, none⟩ k (fun j => vals.getD (off + j) undef) (fun j hj => by
      rw [Addr.add_lit, cell_of_row w _ (off + j) _ e (0, 0) h1]
      have : off + j < vals.length := by omega
      simp [List.getD_eq_getElem?_getD, List.getElem?_eq_getElem this])
    have hkl : ((vals.drop off).take k).length = k := by simp; omega
    refine ⟨.agg ((vals.drop off).take k).toArray, w, ?_, .refl _ _, .agg _ _ (by rw [hvl, g1]) (fun j d hd => (g2 j d hd).1) (fun j d hd => (g2 j d hd).2)⟩
    have e1 : (List.range k).map (fun j => vals.getD (off + j) undef) = (vals.drop off).take k := by
      apply List.ext_getElem?
      intro j
      simp only [List.getElem?_map, List.getElem?_take, List.getElem?_drop]
      rcases Nat.lt_or_ge j k with hj | hj
      · rw [if_pos hj]
        have : off + j < vals.length := by omega
        simp [hj, List.getD_eq_getElem?_getD, List.getElem?_eq_getElem this]
      · rw [if_neg (by omega)]; simp; omega
    simp only [execOp, ho, hr, Instr.loadAt, Instr.sureAddr, loadVar, Sem.run_bind, run_isAggOf hT, run_size hk, Result.andThen_ok, Sem.run_pure, if_true, hcell, e1]
end
end Go.Am

