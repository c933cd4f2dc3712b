/-
  Literals of structs and slices; small conversions; strings.
-/
import Derived.Test.YtjimlkpfmbachaaJ5
set_option linter.unusedVariables false
set_option linter.unusedSimpArgs false
namespace Go.Am
open Go.RowKit Go.Great
set_option linter.unusedVariables false

def Cls.max : Cls → Cls → Cls
  | .pl, c => c
  | .mx, .pl => .mx
  | .mx, c => c
  | .vw, _ => .vw
theorem clsM_max1 {M0 own : Nat → Prop} (c c' : Cls) (b : Nat) (h : clsM M0 own (c.max c') b) : clsM M0 own c b := by
  cases c <;> cases c' <;> simp_all [Cls.max, clsM]
theorem clsM_max2 {M0 own : Nat → Prop} (c c' : Cls) (b : Nat) (h : clsM M0 own (c.max c') b) : clsM M0 own c' b := by
  cases c <;> cases c' <;> simp_all [Cls.max, clsM]

def zeroOf (P : Program) (t : TypeId) : Option (List Value) := ((P.info? t).bind (·.zero)).map (·.cells.toList)
def placesOf (P : Program) (t : TypeId) : Option (List (Nat × Nat)) :=
  match P.underlying t with
  | some (.struct fields) => fields.toList.mapM fun f => (P.info? f.type).map fun i => (f.offset, i.size)
  | _ => none
def fillA (places : List (Nat × Nat)) (cells : List AV) : List (Nat × AV) → Option (List AV)
  | [] => some cells
  | (i, d) :: r => match places[i]? with
    | none => none
    | some (off, size) => bif Nat.beq d.cells.length size && Nat.ble (off + size) cells.length then fillA places (cells.take off ++ d.cells ++ cells.drop (off + size)) r else none
def RelL (w : World) (M : Nat → Prop) (vs : Array Value) (ds : List AV) : Prop := vs.size = ds.length ∧ ∀ (j : Nat) d, ds[j]? = some d → AV.leaf d = true ∧ Rep w M (vs.getD j undef) d

theorem fill_rel {w : World} {M : Nat → Prop} (places : List (Nat × Nat)) : ∀ (parts : List (Nat × Value)) (ps : List (Nat × AV)) (vs : Array Value) (ds r : List AV), RelL w M vs ds → parts.length = ps.length →
    (∀ (j : Nat) i v i' d, parts[j]? = some (i, v) → ps[j]? = some (i', d) → i = i' ∧ Rep w M v d ∧ ∀ us, d ≠ .tup us) → fillA places ds ps = some r → ∃ vs', Instr.fill (places.toArray[·]?) vs parts = some vs' ∧ RelL w M vs' r
  | [], ps, vs, ds, r, h, hl, hp, hf => by
    cases ps with
    | nil => simp only [fillA, Option.some.injEq] at hf; subst hf; exact ⟨vs, rfl, h⟩
    | cons _ _ => simp at hl
  | (i, v) :: parts, ps, vs, ds, r, h, hl, hp, hf => by
    cases ps with
    | nil => simp at hl
    | cons p ps =>
      obtain ⟨i', d⟩ := p
      obtain ⟨rfl, hrep, hnt⟩ := hp 0 i v i' d rfl rfl
      unfold fillA at hf
      cases hpl : places[i]? with
      | none => rw [hpl] at hf; cases hf
      | some q =>
        obtain ⟨off, size⟩ := q
        rw [hpl] at hf
        simp only [] at hf
        cases hc : (Nat.beq d.cells.length size && Nat.ble (off + size) ds.length) with
        | false => rw [hc] at hf; simp at hf
        | true =>
          rw [hc] at hf
          simp only [cond_true] at hf
          simp only [Bool.and_eq_true] at hc
          have h1 := Nat.eq_of_beq_eq_true hc.1
          have h2 := Nat.le_of_ble_eq_true hc.2
          obtain ⟨g1, g2, g3⟩ := hrep.cells hnt
          have hfs := foldl_set off v.cells.toList 0 vs
          have hz : (v.cells.zipIdx.foldl (fun cs (x : Value × Nat) => cs.setIfInBounds (off + x.2) x.1) vs) = (v.cells.toList.zipIdx 0).foldl (fun cs (x : Value × Nat) => cs.setIfInBounds (off + x.2) x.1) vs := by
            rw [← Array.foldl_toList, Array.toList_zipIdx]
          have ih := fill_rel places parts ps (v.cells.zipIdx.foldl (fun cs (x : Value × Nat) => cs.setIfInBounds (off + x.2) x.1) vs) (ds.take off ++ d.cells ++ ds.drop (off + size)) r ?_ (by simpa using hl)
            (fun j i v i' d hj hj' => hp (j + 1) i v i' d (by simpa using hj) (by simpa using hj')) hf
          · obtain ⟨vs', e1, e2⟩ := ih
            refine ⟨vs', ?_, e2⟩
            unfold Instr.fill
            have hcnd : (v.cells.size ≠ size || off + v.cells.size > vs.size) = false := by
              have e0 := h.1
              simp only [ne_eq, Bool.or_eq_false_iff, decide_eq_false_iff_not, Classical.not_not]
              omega
            simp only [List.getElem?_toArray, hpl]
            rw [if_neg (by simpa using hcnd)]
            simpa using e1
          · rw [hz]
            have hvl : v.cells.toList.length = size := by simp [g1, h1]
            refine ⟨by rw [hfs.1, h.1]; simp; omega, fun j e he => ?_⟩
            rw [Array.getD_eq_getD_getElem?, hfs.2 j]
            simp only [Nat.add_zero]
            rw [List.append_assoc] at he
            rcases Nat.lt_or_ge j off with hj | hj
            · rw [List.getElem?_append_left (by simp; omega), List.getElem?_take, if_pos hj] at he
              rw [if_neg (by omega)]
              have := h.2 j e he
              rwa [Array.getD_eq_getD_getElem?] at this
            · rw [List.getElem?_append_right (by simp; omega)] at he
              have hto : (ds.take off).length = off := by simp; omega
              rw [hto] at he
              rcases Nat.lt_or_ge (j - off) d.cells.length with hj2 | hj2
              · rw [List.getElem?_append_left hj2] at he
                rw [if_pos ⟨hj, by omega, by have := h.1; omega⟩]
                refine ⟨g2 _ e he, ?_⟩
                have := g3 _ e he
                rw [Array.getD_eq_getD_getElem?] at this
                simpa using this
              · rw [List.getElem?_append_right hj2, List.getElem?_drop] at he
                rw [if_neg (by omega)]
                have := h.2 j e (by rw [← he]; congr 1; omega)
                rwa [Array.getD_eq_getD_getElem?] at this

section
variable {P : Program} {w0 : Fr} {M0 : Nat → Prop}
variable {o : Oper} {ρ : Operand → Option SV} {ob : List (Nat × Ob)} {d : SV} {x y : Operand} {T T' e : TypeId} {k b : Nat} {c : Cls}

def notTup : AV → Bool
  | .tup _ => false
  | _ => true
def partsView (ρ : Operand → Option SV) (ob : List (Nat × Ob)) : List (Nat × Operand) → Option (Cls × List (Nat × AV))
  | [] => some (.pl, [])
  | (i, x) :: r => match viewAt ρ ob x, partsView ρ ob r with
    | some (c, d), some (c', ds) => bif notTup d then some (c.max c', (i, d) :: ds) else none
    | _, _ => none
theorem partsView_ok {E : Env} {w : World} {ev : Operand → Value} (hw : WOk P w0 M0 E ob w) (h : ∀ x e, ρ x = some e → SVok P M0 w E ob (ev x) e) : ∀ (l : List (Nat × Operand)) (c : Cls) (ps : List (Nat × AV)), partsView ρ ob l = some (c, ps) →
    l.length = ps.length ∧ ∀ (j : Nat) i x i' d, l[j]? = some (i, x) → ps[j]? = some (i', d) → i = i' ∧ Rep w (clsM M0 (owned E ob) c) (ev x) d ∧ ∀ us, d ≠ .tup us
  | [], c, ps, hp => by
    simp only [partsView, Option.some.injEq, Prod.mk.injEq] at hp
    obtain ⟨rfl, rfl⟩ := hp
    exact ⟨rfl, fun j i x i' d h => by simp at h⟩
  | (i, x) :: r, c, ps, hp => by
    unfold partsView at hp
    split at hp
    · rename_i c1 d1 c2 ds h1 h2
      cases hnt : notTup d1 with
      | false => rw [hnt] at hp; cases hp
      | true =>
        rw [hnt] at hp
        simp only [cond_true, Option.some.injEq, Prod.mk.injEq] at hp
        obtain ⟨rfl, rfl⟩ := hp
        obtain ⟨g1, g2⟩ := partsView_ok hw h r c2 ds h2
        refine ⟨by simp [g1], fun j i' x' i2 d2 hj hj' => ?_⟩
        cases j with
        | zero =>
          simp only [List.getElem?_cons_zero, Option.some.injEq, Prod.mk.injEq] at hj hj'
          obtain ⟨rfl, rfl⟩ := hj
          obtain ⟨rfl, rfl⟩ := hj'
          exact ⟨rfl, (viewAt_ok hw h h1).weak (clsM_max1 c1 c2), fun us hu => by subst hu; cases hnt⟩
        | succ j =>
          have := g2 j i' x' i2 d2 (by simpa using hj) (by simpa using hj')
          exact ⟨this.1, this.2.1.weak (clsM_max2 c1 c2), this.2.2⟩
    · cases hp

theorem pure_build {parts : Array (Nat × Operand)} {places : List (Nat × Nat)} {zs : List Value} {ps : List (Nat × AV)} {r : List AV} (ho : o.op = .build T parts) (hpl : placesOf P T = some places) (hz : zeroOf P T = some zs)
    (hzs : zs.all Value.oneCell' = true) (hp : partsView ρ ob parts.toList = some (c, ps)) (hf : fillA places (zs.map .sc) ps = some r) : Pure P w0 M0 o ρ ob (.v c (.agg r)) :=
  pure_value fun E w ev hw h => by
    obtain ⟨g1, g2⟩ := partsView_ok hw h _ c ps hp
    have hrel : RelL w (clsM M0 (owned E ob) c) zs.toArray (zs.map .sc) := by
      refine ⟨by simp, fun j d hd => ?_⟩
      rw [List.getElem?_map, Option.map_eq_some_iff] at hd
      obtain ⟨z, hz1, rfl⟩ := hd
      refine ⟨rfl, ?_⟩
      have : zs.toArray.getD j undef = z := by simp [Array.getD_eq_getD_getElem?, hz1]
      rw [this]
      exact .sc z (by rw [List.all_eq_true] at hzs; exact hzs z (List.mem_of_getElem? hz1))
    obtain ⟨vs', e1, e2⟩ := fill_rel places ((parts.toList.map fun (p : Nat × Operand) => (p.1, ev p.2))) ps zs.toArray (zs.map .sc) r hrel (by simpa using g1) (fun j i v i' d hj hj' => by
      rw [List.getElem?_map, Option.map_eq_some_iff] at hj
      obtain ⟨⟨i2, x2⟩, hj1, hj2⟩ := hj
      simp only [Prod.mk.injEq] at hj2
      obtain ⟨rfl, rfl⟩ := hj2
      exact g2 j i2 x2 i' d hj1 hj') hf
    have hrun : (Instr.build T (parts.map fun (i, x) => (i, ev x))).run P w = .ok (.agg vs') w := by
      apply run_build
      unfold placesOf at hpl
      unfold zeroOf at hz
      unfold Program.built
      split at hpl
      · rename_i fields hu
        cases hi : P.info? T with
        | none => rw [hi] at hz; cases hz
        | some it =>
          rw [hi] at hz
          simp only [Option.bind_some, Option.map_eq_some_iff] at hz
          obtain ⟨z, hz1, hz2⟩ := hz
          simp only [hu, hz1, hpl]
          have e0 : z.cells = zs.toArray := by rw [← hz2]
          rw [e0, Array.toList_map]
          exact e1
      · cases hpl
    refine ⟨.agg vs', w, by simp [execOp, ho, hrun], .refl _ _, ?_⟩
    have := Rep.agg (w := w) (M := clsM M0 (owned E ob) c) vs'.toList r (by simpa using e2.1) (fun j d hd => (e2.2 j d hd).1) (fun j d hd => by
      have := (e2.2 j d hd).2
      rwa [Array.getD_eq_getD_getElem?, ← Array.getElem?_toList, ← List.getD_eq_getElem?_getD] at this)
    simp only [SVok]; simpa using this

theorem run_literal {w : World} {parts : List Value} {n : Nat} {ps : Array (Nat × Value)} (hT : P.underlying T = some (.slice e)) (hel : elOk P e k b = true) (hps : ps.toList = (parts.zipIdx 0).map fun x => (x.2, x.1)) (hn : parts.length = n) (hc : ∀ v ∈ parts, v.cells.size = k)
    (hsm : n * k ≤ 16777216) (hn0 : 0 < n) : (Instr.buildSlice T n ps).run P w = .ok (.slice (some ⟨w.heap.size, 0, none⟩) n n) (w.alloc (.cells (parts.flatMap fun v => v.cells.toList).toArray e)) := by
  obtain ⟨i, z, hi, hz, hsz, hby, hzs, hk0, hck⟩ := elOk_spec hel
  subst hsz
  have hpos : 0 < n * i.size := Nat.mul_pos hn0 hk0
  refine run_buildSlice (P := P) w T e n ps _ i z hT hi hz (by simp; omega) (by omega) ?_
  rw [hps]
  exact fill_whole hk0 parts _ hc (by simp [hn])

theorem flatMap_cells_get : ∀ (vs : List Value) (ds : List AV), vs.length = ds.length → (∀ (j : Nat) v d, vs[j]? = some v → ds[j]? = some d → v.cells.size = d.cells.length) → (vs.flatMap fun v => v.cells.toList).length = (flat ds).length
  | [], [], _, _ => rfl
  | [], _ :: _, h, _ => by simp at h
  | _ :: _, [], h, _ => by simp at h
  | v :: vs, d :: ds, h, hj => by
    have ih := flatMap_cells_get vs ds (by simpa using h) (fun j v d h1 h2 => hj (j + 1) v d (by simpa using h1) (by simpa using h2))
    have h0 := hj 0 v d rfl rfl
    simp only [flat, List.flatMap_cons, List.length_append] at ih ⊢
    rw [ih]; simp [h0]
theorem flatMap_rel {w : World} {M : Nat → Prop} : ∀ (vs : List Value) (ds : List AV), vs.length = ds.length → (∀ (j : Nat) v d, vs[j]? = some v → ds[j]? = some d → Rep w M v d ∧ ∀ us, d ≠ .tup us) →
    ∀ (j : Nat) d, (flat ds)[j]? = some d → AV.leaf d = true ∧ Rep w M ((vs.flatMap fun v => v.cells.toList).getD j undef) d
  | [], [], _, _, j, d, hd => by simp [flat] at hd
  | [], _ :: _, h, _, _, _, _ => by simp at h
  | _ :: _, [], h, _, _, _, _ => by simp at h
  | v :: vs, d0 :: ds, h, hj, j, d, hd => by
    have ih := flatMap_rel vs ds (by simpa using h) (fun j v d h1 h2 => hj (j + 1) v d (by simpa using h1) (by simpa using h2))
    obtain ⟨hr, hnt⟩ := hj 0 v d0 rfl rfl
    obtain ⟨g1, g2, g3⟩ := hr.cells hnt
    simp only [flat, List.flatMap_cons] at hd ih ⊢
    rcases Nat.lt_or_ge j d0.cells.length with hlt | hge
    · rw [List.getElem?_append_left hlt] at hd
      refine ⟨g2 j d hd, ?_⟩
      rw [List.getD_eq_getElem?_getD, List.getElem?_append_left (by simp [g1]; exact hlt)]
      have := g3 j d hd
      rwa [Array.getD_eq_getD_getElem?, ← Array.getElem?_toList] at this
    · rw [List.getElem?_append_right hge] at hd
      have := ih _ d hd
      refine ⟨this.1, ?_⟩
      rw [List.getD_eq_getElem?_getD, List.getElem?_append_right (by simp [g1]; exact hge)]
      rw [List.getD_eq_getElem?_getD] at this
      simpa [g1] using this.2

def litView (ρ : Operand → Option SV) (ob : List (Nat × Ob)) (k : Nat) : Nat → List (Nat × Operand) → Option (Cls × List AV)
  | _, [] => some (.pl, [])
  | n, (i, x) :: r => bif Nat.beq i n then match viewAt ρ ob x, litView ρ ob k (n + 1) r with
    | some (c, d), some (c', ds) => bif notTup d && Nat.beq d.cells.length k then some (c.max c', d :: ds) else none
    | _, _ => none else none
theorem litView_ok {E : Env} {w : World} {ev : Operand → Value} (hw : WOk P w0 M0 E ob w) (h : ∀ x e, ρ x = some e → SVok P M0 w E ob (ev x) e) : ∀ (l : List (Nat × Operand)) (n : Nat) (c : Cls) (ds : List AV), litView ρ ob k n l = some (c, ds) →
    ∃ vs : List Value, (l.map fun (p : Nat × Operand) => (p.1, ev p.2)) = (vs.zipIdx n).map (fun x => (x.2, x.1)) ∧ vs.length = ds.length ∧ (∀ d ∈ ds, d.cells.length = k) ∧ (∀ v ∈ vs, v.cells.size = k) ∧
      ∀ (j : Nat) v d, vs[j]? = some v → ds[j]? = some d → Rep w (clsM M0 (owned E ob) c) v d ∧ ∀ us, d ≠ .tup us
  | [], n, c, ds, hp => by
    simp only [litView, Option.some.injEq, Prod.mk.injEq] at hp
    obtain ⟨rfl, rfl⟩ := hp
    exact ⟨[], rfl, rfl, by simp, by simp, fun j v d h => by simp at h⟩
  | (i, x) :: r, n, c, ds, hp => by
    unfold litView at hp
    cases hin : Nat.beq i n with
    | false => rw [hin] at hp; cases hp
    | true =>
      rw [hin] at hp
      simp only [cond_true] at hp
      obtain rfl := Nat.eq_of_beq_eq_true hin
      split at hp
      · rename_i c1 d1 c2 ds2 h1 h2
        cases hnt : (notTup d1 && Nat.beq d1.cells.length k) with
        | false => rw [hnt] at hp; cases hp
        | true =>
          rw [hnt] at hp
          simp only [cond_true, Option.some.injEq, Prod.mk.injEq] at hp
          obtain ⟨rfl, rfl⟩ := hp
          simp only [Bool.and_eq_true] at hnt
          have hk := Nat.eq_of_beq_eq_true hnt.2
          have hr := viewAt_ok hw h h1
          have hnt' : ∀ us, d1 ≠ .tup us := fun us hu => by subst hu; cases hnt.1
          obtain ⟨g1, g2, g3⟩ := hr.cells hnt'
          obtain ⟨vs, e1, e2, e3, e4, e5⟩ := litView_ok hw h r (i + 1) c2 ds2 h2
          refine ⟨ev x :: vs, by simp [e1], by simp [e2], ?_, ?_, fun j v d hj hj' => ?_⟩
          · intro d hd
            rcases List.mem_cons.1 hd with rfl | hd
            · exact hk
            · exact e3 d hd
          · intro v hv
            rcases List.mem_cons.1 hv with rfl | hv
            · rw [g1, hk]
            · exact e4 v hv
          · cases j with
            | zero =>
              simp only [List.getElem?_cons_zero, Option.some.injEq] at hj hj'
              subst hj; subst hj'
              exact ⟨hr.weak (clsM_max1 c1 c2), hnt'⟩
            | succ j =>
              have := e5 j v d (by simpa using hj) (by simpa using hj')
              exact ⟨this.1.weak (clsM_max2 c1 c2), this.2⟩
      · cases hp

theorem pure_lit {parts : Array (Nat × Operand)} {n : Nat} {ds : List AV} (ho : o.op = .buildSlice T n parts) (hT : P.underlying T = some (.slice e)) (hel : elOk P e k b = true) (hp : litView ρ ob k 0 parts.toList = some (c, ds))
    (hn : ds.length = n) (hn0 : Nat.blt 0 n = true) (hsm : Nat.ble (n * k) 16777216 = true) (hM0 : ∀ b, M0 b → b < w0.w.heap.size) : Pure P w0 M0 o ρ ob (.v c (.sl ds)) :=
  pure_value fun E w ev hw h => by
    obtain ⟨vs, e1, e2, e3, e4, e5⟩ := litView_ok hw h _ 0 c ds hp
    have hrun := run_literal (P := P) (w := w) (n := n) (ps := parts.map fun (i, x) => (i, ev x)) hT hel (by rw [Array.toList_map]; exact e1) (by rw [e2, hn]) e4 (Nat.le_of_ble_eq_true hsm) (by simpa using hn0)
    refine ⟨_, _, by simp only [execOp, ho, Sem.run_bind, hrun, Result.andThen_ok, Sem.run_pure]; rfl, (Below.refl _ _).alloc (Nat.le_refl _) _, ?_⟩
    have hlen := flatMap_cells_get vs ds e2 (fun j v d h1 h2 => ((e5 j v d h1 h2).1.cells (e5 j v d h1 h2).2).1)
    have hrel := flatMap_rel vs ds e2 e5
    have hfl := flat_length ds e3
    have hb : BelowD w0.dr w.heap.size w (w.alloc (.cells (vs.flatMap fun v => v.cells.toList).toArray e)) := (Below.refl _ _).alloc (Nat.le_refl _) _
    refine .sl _ n n ds k (fun j => (vs.flatMap fun v => v.cells.toList).getD j undef) hn (Nat.le_refl _) e3 (fun h0 => ⟨w.heap.size, 0, rfl, fun hM => ?_, by simp, fun j hj => ?_⟩) (fun j d hd => (hrel j d hd).1) (fun j d hd => ((hrel j d hd).2).under hb)
    · cases c with
      | pl =>
        rcases hM with hM | hM
        · have := hM0 _ hM; have := hw.below.size; omega
        · have := (hw.owned_range hM).2; omega
      | mx => have := (hw.owned_range hM).2; omega
      | vw => exact hM
    · have hj' : j < (vs.flatMap fun v => v.cells.toList).length := by rw [hlen, hfl, hn]; exact hj
      rw [cell_of_row _ w.heap.size (0 + j) _ e (0, 0) (heap_alloc_new w _), Nat.zero_add]
      simp [List.getD_eq_getElem?_getD, List.getElem?_eq_getElem hj']

theorem step_lit {s : St} {t : Nat} {parts : Array (Nat × Operand)} {n : Nat} {ds : List AV} (ho : o.op = .buildSlice T n parts) (hd : o.dst = some t) (hn : Nat.blt t s.n = true) (hnd : Nodup s.s = true) (hT : P.underlying T = some (.slice e)) (hel : elOk P e k b = true)
    (hp : litView s.ev s.o k 0 parts.toList = some (.pl, ds)) (hnn : ds.length = n) (hn0 : Nat.blt 0 n = true) (hsm : Nat.ble (n * k) 16777216 = true) (hM0 : ∀ b, M0 b → b < w0.w.heap.size) : Step P w0 M0 o s ((s.upd true t (.arr e ds)).put t (.own t)) := by
  rintro a w Q ⟨E, hs⟩
  obtain ⟨i, z, hi, hz, hsz, hby, hzs, hk0, hck⟩ := elOk_spec hel
  obtain ⟨vs, e1, e2, e3, e4, e5⟩ := litView_ok hs.wok (fun x e hx => hs.ev hx) _ 0 .pl ds hp
  have hrun := run_literal (P := P) (w := w) (n := n) (ps := parts.map fun (i, x) => (i, a.eval x)) hT hel (by rw [Array.toList_map]; exact e1) (by rw [e2, hnn]) e4 (Nat.le_of_ble_eq_true hsm) (by simpa using hn0)
  have hlen := flatMap_cells_get vs ds e2 (fun j v d h1 h2 => ((e5 j v d h1 h2).1.cells (e5 j v d h1 h2).2).1)
  have hrel := flatMap_rel vs ds e2 e5
  have hfl := flat_length ds e3
  unfold Oper.wp
  have hexec : (execOp a.eval o).run P w = .ok (.value (.slice (some ⟨w.heap.size, 0, none⟩) n n)) (w.alloc (.cells (vs.flatMap fun v => v.cells.toList).toArray e)) := by
    simp only [execOp, ho, Sem.run_bind, hrun, Result.andThen_ok, Sem.run_pure]
  rw [hexec]
  simp only [Oper.upon, hd]
  refine ⟨{ E with cur := fun i => if i = t then .slice (some ⟨w.heap.size, 0, none⟩) n n else E.cur i }, SimE.put ?_ (by simpa [St.upd] using hn) sv_own_new⟩
  refine hs.newArr hnd hM0 (World.grownBy_alloc w _ none) (fun _ => Nat.le_refl _) (vals := vs.flatMap fun v => v.cells.toList) ⟨by rw [hlen, hfl, hck], .inr ⟨w.heap.size, n, _, by rw [hnn], Nat.zero_le _, heap_alloc_new w _, by rw [hnn]; exact Nat.le_refl _, ?_, ?_, ?_⟩⟩ (fun b hb => ?_) (by rw [hck]; exact e3) (fun j d hd => ⟨(hrel j d hd).1, .inl (hrel j d hd).2⟩)
  · have h1 := Nat.le_of_ble_eq_true hsm
    have h2 : n ≤ n * k := Nat.le_mul_of_pos_right n hk0
    simp only [maxLen]; omega
  · rw [hck, List.size_toArray, hlen, hfl, hnn]
  · rw [hck, hnn]
    exact List.take_of_length_le (by rw [hlen, hfl, hnn]; exact Nat.le_refl _)
  · simp only [Value.ownBlock, Option.some.injEq] at hb; omega
theorem step_lit0 {s : St} {t : Nat} {parts : Array (Nat × Operand)} (ho : o.op = .buildSlice T 0 parts) (hp : parts.toList = []) (hd : o.dst = some t) (hn : Nat.blt t s.n = true) (hnd : Nodup s.s = true) (hT : P.underlying T = some (.slice e)) (hel : elOk P e k b = true)
    (hM0 : ∀ b, M0 b → b < w0.w.heap.size) : Step P w0 M0 o s ((s.upd true t (.arr e [])).put t (.own t)) := by
  rintro a w Q ⟨E, hs⟩
  obtain ⟨i, z, hi, hz, hsz, hby, hzs, hk0, hck⟩ := elOk_spec hel
  have hp' : parts = #[] := by rw [← Array.toList_eq_nil_iff]; exact hp
  subst hp'
  have hrun : (Instr.buildSlice T 0 #[]).run P w = .ok (.slice (some ⟨w.heap.size, 0, none⟩) 0 0) (w.alloc (.cells #[] e)) := by
    have h0 : Array.range 0 = #[] := rfl
    simp [Instr.buildSlice, run_underlying hT, sizeOf, typeInfo, hi, Instr.fill, newRow, h0]
    try rfl
  unfold Oper.wp
  have hexec : (execOp a.eval o).run P w = .ok (.value (.slice (some ⟨w.heap.size, 0, none⟩) 0 0)) (w.alloc (.cells #[] e)) := by
    simp only [execOp, ho, Sem.run_bind, List.map_toArray, List.map_nil, hrun, Result.andThen_ok, Sem.run_pure]
  rw [hexec]
  simp only [Oper.upon, hd]
  refine ⟨{ E with cur := fun i => if i = t then .slice (some ⟨w.heap.size, 0, none⟩) 0 0 else E.cur i }, SimE.put ?_ (by simpa [St.upd] using hn) sv_own_new⟩
  refine hs.newArr hnd hM0 (World.grownBy_alloc w _ none) (fun _ => Nat.le_refl _) (vals := []) ⟨by simp, .inr ⟨w.heap.size, 0, _, rfl, Nat.zero_le _, heap_alloc_new w _, Nat.le_refl _, by simp [maxLen], by simp, by simp⟩⟩ (fun b hb => ?_) (by simp) (fun j d hd => by simp [flat] at hd)
  simp only [Value.ownBlock, Option.some.injEq] at hb; omega
end
end Go.Am

