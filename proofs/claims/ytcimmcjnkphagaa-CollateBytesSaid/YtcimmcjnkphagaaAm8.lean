/-
  append, literals, make, variables in memory, stores, results that the call then owns.
-/
import Derived.Test.YtcimmcjnkphagaaAm7
namespace Go.Am
open Go.RowKit
set_option linter.unusedVariables false

/-- What the table of types says of an element type: cells, bytes. -/
def elOk (P : Program) (e : TypeId) (k b : Nat) : Bool :=
  match P.info? e with
  | some i => Nat.beq i.size k && Nat.beq i.bytes b && Nat.blt 0 k && (match i.zero with | some z => Nat.beq z.cells.size k | none => false)
  | none => false
theorem elOk_spec {P : Program} {e : TypeId} {k b : Nat} (h : elOk P e k b = true) : ∃ i z, P.info? e = some i ∧ i.zero = some z ∧ i.size = k ∧ i.bytes = b ∧ z.cells.size = k ∧ 0 < k ∧ P.cellsOf e = k := by
  unfold elOk at h
  split at h
  · rename_i i hi
    simp only [Bool.and_eq_true] at h
    obtain ⟨⟨⟨h1, h2⟩, h3⟩, h4⟩ := h
    split at h4
    · rename_i z hz
      exact ⟨i, z, hi, hz, Nat.eq_of_beq_eq_true h1, Nat.eq_of_beq_eq_true h2, Nat.eq_of_beq_eq_true h4, by simpa using h3, by unfold Program.cellsOf; rw [hi]; exact Nat.eq_of_beq_eq_true h1⟩
    · cases h4
  · cases h
theorem flat_append (xs ys : List AV) : flat (xs ++ ys) = flat xs ++ flat ys := by simp [flat]

section
variable {P : Program} {w0 : World} {M0 : Nat → Prop}

/-- What an append takes its elements from. -/
def Src (P : Program) (w0 : World) (M0 : Nat → Prop) (s : St) (y : Operand) (k : Nat) (ys : List AV) : Prop :=
  ∀ E a w, SimE P w0 M0 E s a w → ∃ (A : Option Addr) (n c : Nat) (vals : List Value), a.eval y = .slice A n c ∧ ys.length = n ∧ vals.length = n * k ∧
    (0 < n → ∃ ad, A = some ad ∧ ∀ (j : Nat) u, vals[j]? = some u → w.cell? (ad.add j) = some u) ∧ (∀ x ∈ ys, (AV.cells x).length = k) ∧
    ∀ (j : Nat) d, (flat ys)[j]? = some d → AV.leaf d = true ∧ Rep w (clsM M0 (owned E s.o) .pl) (vals.getD j undef) d
theorem src_of_rep {w : World} {M : Nat → Prop} {v : Value} {ys : List AV} {k : Nat} (hr : Rep w M v (.sl ys)) (hk : ∀ x ∈ ys, (AV.cells x).length = k) :
    ∃ (A : Option Addr) (n c : Nat) (vals : List Value), v = .slice A n c ∧ ys.length = n ∧ vals.length = n * k ∧
    (0 < n → ∃ ad, A = some ad ∧ ∀ (j : Nat) u, vals[j]? = some u → w.cell? (ad.add j) = some u) ∧
    ∀ (j : Nat) d, (flat ys)[j]? = some d → AV.leaf d = true ∧ Rep w M (vals.getD j undef) d := by
  cases hr with
  | sl a n cap _ k' cv hn hc hk' hb hl hr =>
    refine ⟨a, n, cap, (List.range (n * k)).map cv, rfl, hn, by simp, fun h0 => ?_, fun j d hd => ⟨hl j d hd, ?_⟩⟩
    · have hkk : k' = k := by
        cases ys with
        | nil => simp at hn; omega
        | cons x r => rw [← hk x List.mem_cons_self, hk' x List.mem_cons_self]
      subst hkk
      obtain ⟨b, o, rfl, _, _, hcell⟩ := hb h0
      refine ⟨_, rfl, fun j u hu => ?_⟩
      rw [List.getElem?_map] at hu
      rcases Nat.lt_or_ge j (n * k') with hj | hj
      · rw [List.getElem?_range hj] at hu
        simp only [Option.map_some, Option.some.injEq] at hu
        rw [Addr.add_lit, hcell j hj, hu]
      · rw [List.getElem?_eq_none (by simpa using hj)] at hu
        cases hu
    · have hlt : j < n * k := by
        have := flat_length ys hk
        rw [hn] at this
        rw [← this]; exact (List.getElem?_eq_some_iff.1 hd).1
      rw [List.getD_eq_getElem?_getD, List.getElem?_map, List.getElem?_range hlt]
      exact hr j d hd
theorem src_pl {s : St} {y : Operand} {k : Nat} {ys : List AV} (hy : viewAt s.ev s.o y = some (.pl, .sl ys)) (hk : ∀ x ∈ ys, (AV.cells x).length = k) : Src P w0 M0 s y k ys := by
  intro E a w hs
  obtain ⟨A, n, c, vals, h1, h2, h3, h4, h5⟩ := src_of_rep (viewAt_ok hs.wok (fun x e hx => hs.ev hx) hy) hk
  exact ⟨A, n, c, vals, h1, h2, h3, h4, hk, h5⟩
theorem src_sc {s : St} {y : Operand} {c : Cls} {k : Nat} {ys : List AV} (hy : viewAt s.ev s.o y = some (c, .sl ys)) (hk : ∀ x ∈ ys, (AV.cells x).length = k) (hsc : ∀ d ∈ flat ys, ∃ v, d = .sc v) : Src P w0 M0 s y k ys := by
  intro E a w hs
  obtain ⟨A, n, c, vals, h1, h2, h3, h4, h5⟩ := src_of_rep (viewAt_ok hs.wok (fun x e hx => hs.ev hx) hy) hk
  refine ⟨A, n, c, vals, h1, h2, h3, h4, hk, fun j d hd => ⟨(h5 j d hd).1, ?_⟩⟩
  have h6 := (h5 j d hd).2
  obtain ⟨v, rfl⟩ := hsc d (List.mem_of_getElem? hd)
  generalize vals.getD j undef = u at h6
  cases h6
  exact .sc _ ‹_›
theorem src_own {s : St} {y : Operand} {id : Nat} {e : TypeId} {k : Nat} {ys : List AV} (hy : s.ev y = some (.own id)) (hl : s.o.lookup id = some (.arr e ys)) (hk : szOf P e = some k) : Src P w0 M0 s y k ys := by
  intro E a w hs
  have hob := hs.wok.objs id _ hl
  have hv := (hs.ev hy) e ys hl
  obtain ⟨vals, h1, h2, h3⟩ := hob
  have hck := cellsOf_of hk
  rw [hck] at h1 h2
  obtain ⟨A, n, c, vals', g1, g2, g3, g4, g5⟩ := src_of_rep (k := k) ((hs.wok.objs id _ hl).rep (M := fun _ => False) (fun b hb => hb.elim) (fun g _ hf => hf.elim)) h2
  rw [hv, g1]
  refine ⟨A, n, c, vals, rfl, g2, by rw [h1.1, g2], fun h0 => ?_, h2, h3⟩
  obtain ⟨ad, hA, _⟩ := g4 h0
  subst hA
  refine ⟨ad, rfl, fun j u hu => ?_⟩
  rcases h1.2 with ⟨hn, _⟩ | ⟨g, cap, cur, hn, _⟩
  · rw [g1] at hn; cases hn
  · rw [g1] at hn
    simp only [Value.slice.injEq, Option.some.injEq] at hn
    rw [hn.1]
    exact h1.cells (g := g) (by rw [g1, hn.1]; rfl) j u hu

/-- A new array of the call's own. -/
theorem SimE.newArr {E : Env} {s : St} {a : Act} {w w' : World} {t : Nat} {e : TypeId} {xs : List AV} {v : Value} {vals : List Value} (h : SimE P w0 M0 E s a w) (hnd : Nodup s.s = true) (hM0 : ∀ b, M0 b → b < w0.heap.size)
    (hg : w.grownBy w' none) (hdr : w.drawn ≤ w'.drawn) (hown : w'.ownsRow w0.heap.size e (P.cellsOf e) v xs.length vals) (hblk : ∀ b, v.ownBlock = some b → w.heap.size ≤ b) (hk : ∀ x ∈ xs, (AV.cells x).length = P.cellsOf e)
    (hr : ∀ (j : Nat) d, (flat xs)[j]? = some d → AV.leaf d = true ∧ (Rep w (clsM M0 (owned E s.o) .pl) (vals.getD j undef) d ∨ Rep w' (fun b => b < w.heap.size ∨ v.ownBlock = some b) (vals.getD j undef) d)) :
    SimE P w0 M0 { E with cur := fun i => if i = t then v else E.cur i } (s.upd true t (.arr e xs)) a w' := by
  refine h.upd true (fun h => by cases h) hnd hM0 (fun i hi => ⟨by simp [hi], rfl⟩) none hg hdr (fun g hg => by cases hg) (fun b hb => .inr ?_) (fun rep _ => ?_)
  · simp only [ownB, if_true] at hb
    exact hblk b hb
  · refine ⟨vals, by simpa using hown, hk, fun j d hd => ⟨(hr j d hd).1, ?_⟩⟩
    rcases (hr j d hd).2 with h1 | h1
    · exact rep .pl _ _ h1 (by simp)
    · refine h1.weak fun b hb => ?_
      rcases hb with hb | ⟨i, ob, h3, h4⟩
      · have := hM0 b hb; have := h.wok.below.size; exact .inl (by omega)
      · by_cases hi : i = t
        · subst hi
          rw [lookup_ins, if_pos rfl] at h3
          simp only [Option.some.injEq] at h3
          subst h3
          simp only [ownB, if_true] at h4
          exact .inr h4
        · rw [lookup_ins, if_neg hi, lookup_killO, Option.map_eq_some_iff] at h3
          obtain ⟨ob0, h5, rfl⟩ := h3
          refine .inl (h.wok.owned_range ⟨i, ob0, h5, ?_⟩).2
          cases ob0 <;> simp only [killOb, ownB, hi, if_false] at h4 ⊢ <;> exact h4
theorem sv_own_new {w : World} {E : Env} {o : List (Nat × Ob)} {t : Nat} {v : Value} {e : TypeId} {xs : List AV} : SVok P M0 w { E with cur := fun i => if i = t then v else E.cur i } (ins t (.arr e xs) o) v (.own t) := by
  intro e' xs' _
  simp

variable {o : Oper} {s : St} {t id : Nat} {x y : Operand} {T e : TypeId} {k b : Nat} {xs ys : List AV}

/-- 'out = append(out, y...)' on an array of the call's own. -/
theorem step_append (ho : o.op = .call { callee := .builtin .append, args := #[x, y], argTypes := #[T, T] }) (hd : o.dst = some t) (hn : Nat.blt t s.n = true) (hnd : Nodup s.s = true)
    (hT : P.underlying T = some (.slice e)) (hel : elOk P e k b = true) (hx : s.ev x = some (.own id)) (hl : s.o.lookup id = some (.arr e xs)) (hM0 : ∀ b, M0 b → b < w0.heap.size)
    (hy : Src P w0 M0 s y k ys) (hb : (xs.length + ys.length) * b ≤ 140737488355328) (hm : xs.length + ys.length ≤ 4611686018427387904) : Step P w0 M0 o s ((s.upd true id (.arr e (xs ++ ys))).put t (.own id)) := by
  rintro a w Q ⟨E, hs⟩
  obtain ⟨i, z, hi, hz, hsz, hby, hzs, hk0, hck⟩ := elOk_spec hel
  obtain ⟨vals0, hown, hxk, hxr⟩ := hs.wok.objs id _ hl
  obtain ⟨A, n, c, vals, hev, hyn, hvl, hcell, hyk, hyr⟩ := hy E a w hs
  have hex := hs.ev hx e xs hl
  rw [hck] at hown hxk
  have hfy := flat_length ys hyk
  have hone : ∀ u ∈ vals, u.oneCell' = true := by
    intro u hu
    obtain ⟨j, hj, rfl⟩ := List.getElem_of_mem hu
    have hjf : j < (flat ys).length := by rw [hfy, hyn, ← hvl]; exact hj
    have := hyr j (flat ys)[j] (List.getElem?_eq_getElem hjf)
    have h2 := this.2.one this.1
    rwa [List.getD_eq_getElem?_getD, List.getElem?_eq_getElem hj] at h2
  have run : ∃ v' w', (Builtin.append_ #[T, T] o.type #[E.cur id, .slice A n c]).run P w = .ok v' w' ∧ w'.ownsRow w0.heap.size e k v' (xs.length + n) (vals0 ++ vals) ∧ w.grownBy w' (E.cur id).ownBlock ∧
      (v'.ownBlock = (E.cur id).ownBlock ∨ v'.ownBlock = some w.heap.size) := by
    rcases Nat.eq_zero_or_pos n with h0 | h0
    · subst h0
      have hv0 : vals = [] := List.eq_nil_of_length_eq_zero (by simpa using hvl)
      subst hv0
      refine ⟨E.cur id, w, ?_, by simpa using hown, ⟨rfl, rfl, rfl, Nat.le_refl _, fun _ _ _ => rfl⟩, .inl rfl⟩
      have hfc : (Builtin.firstCells i.size 0 (.slice A 0 c)).run P w = .ok #[] w := by
        cases A <;> simp [Builtin.firstCells, loadCells, loadCellsFrom]
      rcases hown.2 with ⟨hv, _⟩ | ⟨g, cap, cur, hv, _, _, hnc, _⟩
      · rw [hv]
        simp [Builtin.append_, run_underlying hT, sizeOf, typeInfo, hi, Builtin.lenOf, hfc]
      · rw [hv]
        simp [Builtin.append_, run_underlying hT, sizeOf, typeInfo, hi, Builtin.lenOf, hfc, hnc, storeCells]
    · obtain ⟨ad, rfl, hcell'⟩ := hcell h0
      obtain ⟨v', w', h1, h2, h3, _, h5⟩ := run_append_own_at (P := P) w w0.heap.size T o.type e i z k b hT hi hz hsz hby hzs hk0 (E.cur id) xs.length vals0 hown ad n c vals hvl hcell' hone
        (by simp only [maxLen]; omega) (by rw [← hyn]; exact hb) hs.wok.below.size
      exact ⟨v', w', h1, h2, h3, h5⟩
  obtain ⟨v', w', hrun, hown', hg, hblk⟩ := run
  unfold Oper.wp
  have hexec : (execOp a.eval o).run P w = .ok (.value v') w' := by
    simp [execOp, ho, resolve, invoke, builtin, hex, hev, hrun]
  rw [hexec]
  simp only [Oper.upon, hd]
  refine ⟨{ E with cur := fun i => if i = id then v' else E.cur i }, SimE.put ?_ (by simpa [St.upd] using hn) sv_own_new⟩
  refine hs.upd true (fun h => by cases h) hnd hM0 (fun j hj => ⟨by simp [hj], rfl⟩) (E.cur id).ownBlock hg (run_drawn _ _ _ _ hrun) (fun g hg => ⟨_, hl, hg⟩) (fun b hb => ?_) (fun rep _ => ?_)
  · simp only [ownB, if_true] at hb
    rcases hblk with h1 | h1
    · exact .inl ⟨_, hl, by rw [h1] at hb; exact hb⟩
    · rw [h1] at hb; simp only [Option.some.injEq] at hb; exact .inr (by omega)
  · have hfx := flat_length xs hxk
    refine ⟨vals0 ++ vals, ?_, ?_, fun j d hd => ?_⟩
    · simp only [if_true, hck, List.length_append, hyn]; exact hown'
    · rw [hck]; intro u hu
      rcases List.mem_append.1 hu with h | h
      · exact hxk u h
      · exact hyk u h
    · have hl0 : vals0.length = (flat xs).length := by rw [hfx, hown.1]
      rw [flat_append] at hd
      rcases Nat.lt_or_ge j (flat xs).length with hj | hj
      · rw [List.getElem?_append_left hj] at hd
        have := hxr j d hd
        refine ⟨this.1, ?_⟩
        rw [List.getD_eq_getElem?_getD, List.getElem?_append_left (by omega), ← List.getD_eq_getElem?_getD]
        exact rep .pl _ _ this.2 (by simp)
      · rw [List.getElem?_append_right hj] at hd
        have := hyr _ d hd
        refine ⟨this.1, ?_⟩
        rw [List.getD_eq_getElem?_getD, List.getElem?_append_right (by omega), hl0, ← List.getD_eq_getElem?_getD]
        exact rep .pl _ _ this.2 (by simp)

/-- 'var out []T', 'out = nil': an array of the call's own, empty. -/
theorem step_nil (ho : o.op = .assign x) (hd : o.dst = some t) (hn : Nat.blt t s.n = true) (hnd : Nodup s.s = true) (hx : scal s.ev x = some (.slice none 0 0)) (e : TypeId) (hM0 : ∀ b, M0 b → b < w0.heap.size) :
    Step P w0 M0 o s ((s.upd true t (.arr e [])).put t (.own t)) := by
  rintro a w Q ⟨E, hs⟩
  have hv : a.eval x = .slice none 0 0 := scal_ok (ρ := s.ev) (x := x) (ob := s.o) (ev := a.eval) (fun x e hx => hs.ev hx) hx
  unfold Oper.wp
  have hexec : (execOp a.eval o).run P w = .ok (.value (.slice none 0 0)) w := by simp [execOp, ho, hv]
  rw [hexec]
  simp only [Oper.upon, hd]
  refine ⟨{ E with cur := fun i => if i = t then .slice none 0 0 else E.cur i }, SimE.put ?_ (by simpa [St.upd] using hn) sv_own_new⟩
  exact hs.newArr hnd hM0 ⟨rfl, rfl, rfl, Nat.le_refl _, fun _ _ _ => rfl⟩ (Nat.le_refl _) (vals := []) (World.ownsRow_nil w _ _ _) (fun b hb => by cases hb) (fun x hx => by cases hx) (fun j d hd => by simp [flat] at hd)

/-- 'append(nil, y...)', 'append([]T{}, ..)' out of the nil constant. -/
theorem step_append_nil (ho : o.op = .call { callee := .builtin .append, args := #[x, y], argTypes := #[T, T] }) (hd : o.dst = some t) (hn : Nat.blt t s.n = true) (hnd : Nodup s.s = true)
    (hT : P.underlying T = some (.slice e)) (hel : elOk P e k b = true) (hx : scal s.ev x = some (.slice none 0 0)) (hM0 : ∀ b, M0 b → b < w0.heap.size)
    (hy : Src P w0 M0 s y k ys) (hb : ys.length * b ≤ 140737488355328) (hm : ys.length ≤ 4611686018427387904) : Step P w0 M0 o s ((s.upd true t (.arr e ys)).put t (.own t)) := by
  rintro a w Q ⟨E, hs⟩
  obtain ⟨i, z, hi, hz, hsz, hby, hzs, hk0, hck⟩ := elOk_spec hel
  obtain ⟨A, n, c, vals, hev, hyn, hvl, hcell, hyk, hyr⟩ := hy E a w hs
  have hex : a.eval x = .slice none 0 0 := scal_ok (ρ := s.ev) (x := x) (ob := s.o) (ev := a.eval) (fun x e hx => hs.ev hx) hx
  have hfy := flat_length ys hyk
  have hone : ∀ u ∈ vals, u.oneCell' = true := by
    intro u hu
    obtain ⟨j, hj, rfl⟩ := List.getElem_of_mem hu
    have hjf : j < (flat ys).length := by rw [hfy, hyn, ← hvl]; exact hj
    have := hyr j (flat ys)[j] (List.getElem?_eq_getElem hjf)
    have h2 := this.2.one this.1
    rwa [List.getD_eq_getElem?_getD, List.getElem?_eq_getElem hj] at h2
  have run : ∃ v' w', (Builtin.append_ #[T, T] o.type #[.slice none 0 0, .slice A n c]).run P w = .ok v' w' ∧ w'.ownsRow w0.heap.size e k v' n vals ∧ w.grownBy w' none ∧ (∀ b, v'.ownBlock = some b → w.heap.size ≤ b) := by
    rcases Nat.eq_zero_or_pos n with h0 | h0
    · subst h0
      have hv0 : vals = [] := List.eq_nil_of_length_eq_zero (by simpa using hvl)
      subst hv0
      refine ⟨.slice none 0 0, w, ?_, World.ownsRow_nil w _ _ _, ⟨rfl, rfl, rfl, Nat.le_refl _, fun _ _ _ => rfl⟩, fun b hb => by cases hb⟩
      have hfc : (Builtin.firstCells i.size 0 (.slice A 0 c)).run P w = .ok #[] w := by
        cases A <;> simp [Builtin.firstCells, loadCells, loadCellsFrom]
      simp [Builtin.append_, run_underlying hT, sizeOf, typeInfo, hi, Builtin.lenOf, hfc]
    · obtain ⟨ad, rfl, hcell'⟩ := hcell h0
      obtain ⟨v', w', h1, h2, h3, _, h5⟩ := run_append_own_at (P := P) w w0.heap.size T o.type e i z k b hT hi hz hsz hby hzs hk0 (.slice none 0 0) 0 [] (World.ownsRow_nil w _ _ _) ad n c vals hvl hcell' hone
        (by simp only [maxLen]; omega) (by rw [← hyn, Nat.zero_add]; exact hb) hs.wok.below.size
      refine ⟨v', w', h1, by simpa using h2, h3, fun b hb => ?_⟩
      rcases h5 with h5 | h5
      · rw [h5] at hb; cases hb
      · rw [h5] at hb; simp only [Option.some.injEq] at hb; omega
  obtain ⟨v', w', hrun, hown', hg, hblk⟩ := run
  unfold Oper.wp
  have hexec : (execOp a.eval o).run P w = .ok (.value v') w' := by
    simp [execOp, ho, resolve, invoke, builtin, hex, hev, hrun]
  rw [hexec]
  simp only [Oper.upon, hd]
  refine ⟨{ E with cur := fun i => if i = t then v' else E.cur i }, SimE.put ?_ (by simpa [St.upd] using hn) sv_own_new⟩
  exact hs.newArr hnd hM0 hg (run_drawn _ _ _ _ hrun) (vals := vals) (by rw [hck, hyn]; exact hown') hblk (by rw [hck]; exact hyk) (fun j d hd => ⟨(hyr j d hd).1, .inl (hyr j d hd).2⟩)

/-- A call whose result the caller then owns. -/
theorem step_call_own {cx : Operand} {args : Array Operand} {ats : Array TypeId} {c : Cls} {f : FuncId} {caps ds : List AV}
    (ho : o.op = .call { callee := .value cx, args := args, argTypes := ats }) (hd : o.dst = some t) (hn : Nat.blt t s.n = true) (hnd : Nodup s.s = true) (hc : s.ev cx = some (.v c (.clo f caps))) (ha : viewAll s.ev s.o args.toList = some ds) (h : CallF P f (ds ++ caps) (.fresh e xs))
    (hM0 : ∀ b, M0 b → b < w0.heap.size) : Step P w0 M0 o s ((s.upd true t (.arr e xs)).put t (.own t)) := by
  rintro a w Q ⟨E, hs⟩
  have hcv := hs.ev hc
  simp only [SVok] at hcv
  generalize hq : a.eval cx = q at hcv
  cases hcv with
  | clo _ vs _ hnc hr =>
    have hv := viewAll_ok hs.wok (fun x e hx => hs.ev hx) _ _ ha
    unfold Oper.wp
    rw [run_call ho hq h.1]
    simp only [Oper.upon]
    have hall := h.2 w (args.toList.map a.eval ++ vs) (by simp [hv.1, hnc]) (fun j d hd => ?_)
    · have e1 : (args.toList.map a.eval ++ vs).toArray = args.map a.eval ++ vs.toArray := by apply Array.ext' ; simp
      rw [e1] at hall
      refine hall.mono fun e' w' ⟨v, he, hb, hrv⟩ => ?_
      subst he
      obtain ⟨vals, h1, h2, h3⟩ := hrv
      simp only [hd]
      refine ⟨{ E with cur := fun i => if i = t then v else E.cur i }, SimE.put ?_ (by simpa [St.upd] using hn) sv_own_new⟩
      refine hs.newArr hnd hM0 (grownBy_of_below hb) hb.drawn (vals := vals) ?_ (fun b hb => (h1.lt b hb).1) h2 (fun j d hd => ⟨(h3 j d hd).1, .inr (h3 j d hd).2⟩)
      refine ⟨h1.1, ?_⟩
      rcases h1.2 with h4 | ⟨g, cap, cur, hv, hg, h4⟩
      · exact .inl h4
      · exact .inr ⟨g, cap, cur, hv, by have := hs.wok.below.size; omega, h4⟩
    · rw [List.getD_eq_getElem?_getD]
      rcases Nat.lt_or_ge j ds.length with hlt | hge
      · rw [List.getElem?_append_left hlt] at hd
        have := hv.2 j d hd
        rw [List.getElem?_append_left (by simp [hv.1]; omega)]
        rwa [List.getD_eq_getElem?_getD] at this
      · rw [List.getElem?_append_right hge] at hd
        have := hr _ d hd
        rw [List.getElem?_append_right (by simp [hv.1]; omega)]
        simp only [List.length_map, hv.1]
        rw [List.getD_eq_getElem?_getD] at this
        exact this.weak (fun b hb => hb.elim)
end
end Go.Am
