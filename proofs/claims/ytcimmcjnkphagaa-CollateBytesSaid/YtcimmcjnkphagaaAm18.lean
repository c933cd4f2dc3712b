/-
  Parts of arrays of the call's own.
-/
import Derived.Test.YtcimmcjnkphagaaAm17
namespace Go.Am
open Go.RowKit
set_option linter.unusedVariables false
section
variable {P : Program} {w0 : World} {M0 : Nat → Prop} {s : St}
variable {o : Oper} {ρ : Operand → Option SV} {ob : List (Nat × Ob)} {x y z : Operand} {T e : TypeId} {k : Nat} {xs : List AV} {id : Nat}
/-- A fresh array, read as plain data. -/
theorem callF_plain {f : FuncId} {ds : List AV} {e : TypeId} {xs : List AV} (h : CallF P f ds (.fresh e xs)) : CallF P f ds (.p (.sl xs)) :=
  ⟨h.1, fun w vs hv hr => (h.2 w vs hv hr).mono fun e w' ⟨v, he, hb, hrv⟩ => ⟨v, he, hb, hrv.rep (M := fun b => b < w.heap.size) (fun b hb => hb)⟩⟩
/-- A truth value, known. -/
theorem pure_to {c : Cls} {b b' : Bool} (h : Pure P w0 M0 o ρ ob (.v c (bool b))) (e : b = b') : Pure P w0 M0 o ρ ob (.v c (bool b')) := by
  subst e; exact h
theorem pure_callb {cx : Operand} {args : Array Operand} {ats : Array TypeId} {c : Cls} {f : FuncId} {caps ds : List AV} {b b' : Bool}
    (ho : o.op = .call { callee := .value cx, args := args, argTypes := ats }) (hc : ρ cx = some (.v c (.clo f caps))) (ha : viewAll ρ ob args.toList = some ds) (h : CallF P f (ds ++ caps) (.p (bool b)))
    (hM0 : ∀ b, M0 b → b < w0.heap.size) (e : b = b') : Pure P w0 M0 o ρ ob (.v .pl (bool b')) := by
  subst e; exact pure_call ho hc ha h hM0
/-- 'xs[:j]' of an array of the call's own, known as such. -/
theorem pure_slice_own {q' : IntKind} {j : Int} (ho : o.op = .slice T x none (some z) none) (hT : P.underlying T = some (.slice e)) (hk : szOf P e = some k) (hx : ρ x = some (.own id)) (hl : ob.lookup id = some (.arr e xs)) (hz : scal ρ z = some (.int q' j)) (h : 0 ≤ j ∧ j ≤ xs.length) :
    Pure P w0 M0 o ρ ob (.vsl id 0 j.toNat) :=
  pure_value fun E w ev hw hh => by
    have hr := hh x _ hx e xs hl
    have hz' := scal_ok hh hz
    obtain ⟨vals, hown, h2, h3⟩ := hw.objs id _ hl
    have hu : ∃ a cap, E.cur id = .slice a xs.length cap ∧ xs.length ≤ cap := by
      rcases hown.2 with ⟨hv, hn⟩ | ⟨g, cap, cur, hv, hgb, hh, hnc, _⟩
      · exact ⟨none, 0, by rw [hv, hn], by omega⟩
      · exact ⟨_, cap, hv, hnc⟩
    obtain ⟨a, cap, hv, hc⟩ := hu
    have hrun : (Instr.slice T (.slice a xs.length cap) none (some (.int q' j)) none).run P w = .ok (sliced a 0 j.toNat cap k) w := by
      have hj : 0 ≤ j ∧ j ≤ (cap : Int) := by omega
      simp [Instr.slice, run_underlying hT, Instr.sliceBounds, run_sliceBound, hj, run_size hk, sliced]
    have hel : P.elem T = e := by simp [Program.elem, hT]
    refine ⟨sliced a 0 j.toNat cap k, w, ?_, .refl _ _, fun e' xs' hl' => ?_⟩
    · simp only [execOp, ho, hr, hv, hz', Option.map_some, Option.map_none, Sem.run_bind, run_sliceAt_slice (P := P) (w := w) T _ _ _ _ (by rw [hel]; exact hT), hrun, Result.andThen_ok, Sem.run_pure]
    · rw [hl] at hl'
      simp only [Option.some.injEq, Ob.arr.injEq] at hl'
      obtain ⟨rfl, rfl⟩ := hl'
      exact ⟨by omega, a, _, cap, hv, by rw [cellsOf_of hk, Nat.zero_add]⟩
theorem src_vsl {i n : Nat} (hy : s.ev y = some (.vsl id i n)) (hl : s.o.lookup id = some (.arr e xs)) (hk : szOf P e = some k) : Src P w0 M0 s y k ((xs.drop i).take n) := by
  intro E a w hs
  have hob := hs.wok.objs id _ hl
  obtain ⟨hle, ad, len, cap, hc, hv⟩ := (hs.ev hy) e xs hl
  obtain ⟨vals, h1, h2, h3⟩ := hob
  rw [cellsOf_of hk] at hv
  obtain ⟨hvl, hform⟩ := h1
  rw [cellsOf_of hk] at hvl h2
  have hflat : ∀ (q : Nat) d, (flat ((xs.drop i).take n))[q]? = some d → (flat xs)[i * k + q]? = some d := by
    intro q d hd
    have e1 : xs = xs.take i ++ ((xs.drop i).take n ++ (xs.drop i).drop n) := by rw [List.take_append_drop, List.take_append_drop]
    have hlen : (flat (xs.take i)).length = i * k := by
      rw [flat_length (xs.take i) (fun v hv => h2 v (List.mem_of_mem_take hv)), List.length_take, Nat.min_eq_left (by omega)]
    rw [e1, flat_append, flat_append, List.getElem?_append_right (by omega), hlen, Nat.add_sub_cancel_left, List.getElem?_append_left (List.getElem?_eq_some_iff.1 hd).1]
    exact hd
  have hmul : i * k + n * k ≤ xs.length * k := by rw [← Nat.add_mul]; exact Nat.mul_le_mul_right _ hle
  refine ⟨_, n, _, (vals.drop (i * k)).take (n * k), hv.trans (by unfold sliced; rw [Nat.add_sub_cancel_left]), by simp; omega, by simp; omega, fun h0 => ?_, fun x hx => h2 x (List.mem_of_mem_drop (List.mem_of_mem_take hx)), fun j d hd => ?_⟩
  · rcases hform with ⟨hv0, hn0⟩ | ⟨g, cap', cur, hv0, hgb, hh, hnc, hcm, hcs, htake⟩
    · omega
    · rw [hv0] at hc
      simp only [Value.slice.injEq] at hc
      obtain ⟨rfl, rfl, rfl⟩ := hc
      rw [cellsOf_of hk] at hcs htake
      have hown : w.ownsRow w0.heap.size e (P.cellsOf e) (E.cur id) xs.length vals := ⟨by rw [cellsOf_of hk]; exact hvl, .inr ⟨g, cap', cur, hv0, hgb, hh, hnc, hcm, by rw [cellsOf_of hk]; exact hcs, by rw [cellsOf_of hk]; exact htake⟩⟩
      refine ⟨⟨g, i * k, none⟩, by rw [if_neg (by omega)]; simp [Addr.add_lit], fun j u hj => ?_⟩
      rw [List.getElem?_take] at hj
      split at hj
      · rw [List.getElem?_drop] at hj
        have := hown.cells (by rw [hv0]; rfl) (i * k + j) u hj
        rw [Addr.add_lit] at this ⊢
        rwa [Nat.zero_add] at this
      · cases hj
  · have hjl : j < n * k := by
      have h4 := (List.getElem?_eq_some_iff.1 hd).1
      rw [flat_length _ (fun x hx => h2 x (List.mem_of_mem_drop (List.mem_of_mem_take hx)))] at h4
      have : ((xs.drop i).take n).length = n := by simp; omega
      rwa [this] at h4
    have := h3 _ d (hflat j d hd)
    refine ⟨this.1, ?_⟩
    have h6 := this.2
    rw [List.getD_eq_getElem?_getD] at h6
    rw [List.getD_eq_getElem?_getD, List.getElem?_take, if_pos hjl, List.getElem?_drop]
    exact h6
theorem addr_add0 (a : Addr) : a.add 0 = a := by
  unfold Addr.add
  (repeat' split) <;> simp_all
/-- A slot read anew. -/
theorem SimE.retag {E : Env} {a : Act} {w : World} {t : Nat} {d : SV} (h : SimE P w0 M0 E s a w) (ht : t < s.n) (hv : SVok P M0 w E s.o (a.tmps.getD t undef) d) : SimE P w0 M0 E (s.put t d) a w := by
  refine ⟨h.size, h.defers, fun u e he => ?_, h.wok⟩
  simp only [St.put] at he ⊢
  rw [lookup_ins] at he
  split at he
  · rename_i hu
    subst hu
    simp only [Option.some.injEq] at he
    subst he
    exact ⟨ht, hv⟩
  · exact h.slots u e he
/-- An array of the call's own, cut down to its first elements: 'xs = xs[:n]'. -/
theorem imp_trunc {n t : Nat} (ht : s.s.lookup t = some (.vsl id 0 n)) (hl : s.o.lookup id = some (.arr e xs)) (hM0 : ∀ b, M0 b → b < w0.heap.size) (hnd : Nodup s.s = true) : Imp P w0 M0 s ((s.upd true id (.arr e (xs.take n))).put t (.own id)) := by
  rintro a w ⟨E, hs⟩
  obtain ⟨htn, hsv⟩ := hs.slots t _ ht
  obtain ⟨hle, ad, len, cap, hc, hv⟩ := hsv e xs hl
  rw [Nat.zero_add] at hle
  obtain ⟨vals, h1, h2, h3⟩ := hs.wok.objs id _ hl
  have hv' : a.tmps.getD t undef = .slice ad n cap := by
    rw [hv]; unfold sliced
    simp only [Nat.zero_mul, Nat.zero_add, Nat.sub_zero, Value.slice.injEq, and_true]
    cases ad with
    | none => simp
    | some p => split <;> simp [addr_add0]
  have hob : (Value.slice ad n cap).ownBlock = (E.cur id).ownBlock := by rw [hc]; cases ad <;> rfl
  have hmul : n * P.cellsOf e ≤ xs.length * P.cellsOf e := Nat.mul_le_mul_right _ hle
  have hown : w.ownsRow w0.heap.size e (P.cellsOf e) (.slice ad n cap) (xs.take n).length (vals.take (n * P.cellsOf e)) := by
    obtain ⟨hvl, hform⟩ := h1
    refine ⟨by rw [List.length_take, List.length_take, Nat.min_eq_left (by omega), Nat.min_eq_left hle], ?_⟩
    have hxl : (xs.take n).length = n := by simp; omega
    rw [hxl]
    rcases hform with ⟨hv0, hn0⟩ | ⟨g, cap', cur, hv0, hgb, hh, hnc, hcm, hcs, htake⟩
    · rw [hv0] at hc
      simp only [Value.slice.injEq] at hc
      obtain ⟨rfl, rfl, rfl⟩ := hc
      exact .inl ⟨by rw [show n = 0 by omega], by omega⟩
    · rw [hv0] at hc
      simp only [Value.slice.injEq] at hc
      obtain ⟨rfl, rfl, rfl⟩ := hc
      refine .inr ⟨g, cap', cur, rfl, hgb, hh, by omega, hcm, hcs, ?_⟩
      rw [← htake, List.take_take, Nat.min_eq_left hmul]
  have h4 := hs.upd (E' := { E with cur := fun i => if i = id then .slice ad n cap else E.cur i }) (w' := w) (id := id) (ob' := .arr e (xs.take n)) true (fun h => by cases h) hnd hM0 (fun j hj => ⟨by simp [hj], rfl⟩) none ⟨rfl, rfl, rfl, Nat.le_refl _, fun _ _ _ => rfl⟩ (Nat.le_refl _) (fun g hg => by cases hg) (fun b hb => .inl ⟨_, hl, by
      simp only [ownB, if_true] at hb ⊢
      rw [← hob]; exact hb⟩) (fun rep _ => ?_)
  · exact ⟨_, h4.retag (by simpa [St.upd] using htn) (by rw [hv']; exact sv_own_new)⟩
  · refine ⟨vals.take (n * P.cellsOf e), by simp only [if_true]; exact hown, fun x hx => h2 x (List.mem_of_mem_take hx), fun j d hd => ?_⟩
    have hjx : (flat xs)[j]? = some d := by
      rw [← List.take_append_drop n xs, flat_append, List.getElem?_append_left (List.getElem?_eq_some_iff.1 hd).1]; exact hd
    have hjl : j < n * P.cellsOf e := by
      have h4 := (List.getElem?_eq_some_iff.1 hd).1
      rw [flat_length _ (fun x hx => h2 x (List.mem_of_mem_take hx)), List.length_take, Nat.min_eq_left hle] at h4
      exact h4
    have := h3 j d hjx
    refine ⟨this.1, ?_⟩
    have h6 := rep .pl _ _ this.2 (by simp)
    rw [List.getD_eq_getElem?_getD] at h6
    rw [List.getD_eq_getElem?_getD, List.getElem?_take, if_pos hjl]
    exact h6
theorem code_trunc {c : Code} {Q : Exit → St → Prop} {n : Nat} (t : Nat) (ht : s.s.lookup t = some (.vsl id 0 n)) (hl : s.o.lookup id = some (.arr e xs)) (hM0 : ∀ b, M0 b → b < w0.heap.size) (hnd : Nodup s.s = true) (h : CodeOk P w0 M0 c ((s.upd true id (.arr e (xs.take n))).put t (.own id)) Q) : CodeOk P w0 M0 c s Q :=
  CodeOk.imp (imp_trunc ht hl hM0 hnd) h
theorem ol_trunc {ops : Array Oper} {Q : St → Prop} {l' : List Oper} {n : Nat} (t : Nat) (ht : s.s.lookup t = some (.vsl id 0 n)) (hl : s.o.lookup id = some (.arr e xs)) (hM0 : ∀ b, M0 b → b < w0.heap.size) (hnd : Nodup s.s = true) (h : OpsL P w0 M0 ops Q l' ((s.upd true id (.arr e (xs.take n))).put t (.own id))) : OpsL P w0 M0 ops Q l' s :=
  OpsL.imp (imp_trunc ht hl hM0 hnd) h
end
end Go.Am
