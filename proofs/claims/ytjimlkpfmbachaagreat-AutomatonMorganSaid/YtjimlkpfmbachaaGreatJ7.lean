/-
  Scopes and labels; bits; bytes of a list.
-/
import Derived.Test.YtjimlkpfmbachaaGreatJ6
import Derived.ProofKit
import Derived.OpenShut
import Derived.Carry
import Derived.Handed
import Derived.Deep.Slices
import Derived.WideKeyArgs
import Derived.Scope
import Derived.Control
import Derived.Lib.SliceRun
set_option linter.unusedVariables false
set_option linter.unusedSectionVars false
set_option linter.unusedSimpArgs false
namespace Go.Am
open Go.RowKit
set_option linter.unusedVariables false
section
variable {P : Program} {w0 : Fr} {M0 : Nat → Prop} {s : St}
theorem imp_nilown (b j K : Nat) (e eb : TypeId) {cs : List SV} (hM0 : ∀ b, M0 b → b < w0.w.heap.size) (hnd : Nodup s.s = true) (hb : (s.upd true K (.arr e [])).o.lookup b = some (.box eb cs)) (hj : cs[j]? = some (.v .pl (.sc (.slice none 0 0))))
    (hnd' : Nodup (s.upd true K (.arr e [])).s = true) : Imp P w0 M0 s ((s.upd true K (.arr e [])).upd false b (.box eb ((keepC b cs).set j (.own K)))) := by
  rintro a w ⟨E, hs⟩
  have h1 := hs.newArr (t := K) (e := e) (xs := []) (v := .slice none 0 0) hnd hM0 (w' := w) ⟨rfl, rfl, rfl, Nat.le_refl _, fun _ _ _ => rfl⟩ (fun _ => Nat.le_refl _) (vals := []) (World.ownsRow_nil w _ _ _) (fun b hb => by cases hb) (fun x hx => by cases hx) (fun j d hd => by simp [flat] at hd)
  generalize hE1 : ({ E with cur := fun i => if i = K then .slice none 0 0 else E.cur i } : Env) = E1 at h1
  have hc : E1.cur K = .slice none 0 0 := by rw [← hE1]; simp
  refine ⟨E1, h1.upd false (fun _ => ⟨rfl, .inr (.inl ⟨eb, cs, _, hb, rfl⟩)⟩) hnd' hM0 (fun i hi => ⟨rfl, rfl⟩) (.inr rfl) none ⟨rfl, rfl, rfl, Nat.le_refl _, fun _ _ _ => rfl⟩ (fun _ => Nat.le_refl _) (fun g hg => by cases hg) (fun b' hb' => .inl ⟨_, hb, hb'⟩) (fun rep sv => ?_)⟩
  obtain ⟨vals, g1, g2, g3, g4⟩ := h1.wok.objs b _ hb
  refine ⟨vals, g1, g2, by simpa [keepC] using g3, fun i d hd => ?_⟩
  by_cases hi : j = i
  · subst hi
    have hjl : j < cs.length := (List.getElem?_eq_some_iff.1 hj).1
    rw [List.getElem?_set_self (by simpa [keepC] using hjl)] at hd
    simp only [Option.some.injEq] at hd
    subst hd
    have := g4 j _ hj
    refine ⟨rfl, this.2.1, fun e' xs' _ => ?_⟩
    rw [hc]
    have h5 : Rep w _ (vals.getD j undef) (.sc (.slice none 0 0)) := this.2.2
    generalize vals.getD j undef = u at h5 ⊢
    cases h5; rfl
  · rw [List.getElem?_set_ne hi] at hd
    simp only [keepC, List.getElem?_map, Option.map_eq_some_iff] at hd
    obtain ⟨d0, hd0, rfl⟩ := hd
    have := g4 i d0 hd0
    split
    · exact ⟨this.1, this.2.1, sv _ _ this.2.2 ‹_›⟩
    · exact ⟨rfl, this.2.1, trivial⟩
theorem code_nilown {y : Code} {Q : Exit → St → Prop} (b j K : Nat) (e eb : TypeId) {cs : List SV} (hM0 : ∀ b, M0 b → b < w0.w.heap.size) (hnd : Nodup s.s = true) (hb : (s.upd true K (.arr e [])).o.lookup b = some (.box eb cs)) (hj : cs[j]? = some (.v .pl (.sc (.slice none 0 0))))
    (hnd' : Nodup (s.upd true K (.arr e [])).s = true) (h : CodeOk P w0 M0 y ((s.upd true K (.arr e [])).upd false b (.box eb ((keepC b cs).set j (.own K)))) Q) : CodeOk P w0 M0 y s Q :=
  CodeOk.imp (imp_nilown b j K e eb hM0 hnd hb hj hnd') h
end
end Go.Am

namespace Go.Am
open Go.RowKit
set_option linter.unusedVariables false
section
variable {P : Program} {w0 : Fr} {M0 : Nat → Prop} {s : St}
variable {o : Oper} {ρ : Operand → Option SV} {ob : List (Nat × Ob)} {x y z : Operand} {T e : TypeId} {k : Nat} {xs : List AV} {id : Nat}
theorem pure_to {c : Cls} {b b' : Bool} (h : Pure P w0 M0 o ρ ob (.v c (bool b))) (e : b = b') : Pure P w0 M0 o ρ ob (.v c (bool b')) := by
  subst e; exact h
theorem pure_callb {cx : Operand} {args : Array Operand} {ats : Array TypeId} {c : Cls} {f : FuncId} {caps ds : List AV} {b b' : Bool}
    (ho : o.op = .call { callee := .value cx, args := args, argTypes := ats }) (hc : ρ cx = some (.v c (.clo f caps))) (ha : viewAll ρ ob args.toList = some ds) (h : CallF P f (ds ++ caps) (.p (bool b)))
    (hM0 : ∀ b, M0 b → b < w0.w.heap.size) (e : b = b') : Pure P w0 M0 o ρ ob (.v .pl (bool b')) := by
  subst e; exact pure_call ho hc ha h hM0
theorem pure_slice_own {q' : IntKind} {j : Int} (ho : o.op = .slice T x none (some z) none) (hT : P.underlying T = some (.slice e)) (hk : szOf P e = some k) (hx : ρ x = some (.own id)) (hl : ob.lookup id = some (.arr e xs)) (hz : scal ρ z = some (.int q' j)) (h : 0 ≤ j ∧ j ≤ xs.length) :
    Pure P w0 M0 o ρ ob (.vsl id 0 j.toNat) :=
  pure_value fun E w ev hw hh => by
    have hr := hh x _ hx e xs hl
    have hz' := scal_ok hh hz
    obtain ⟨vals, ⟨hown, hownF⟩, h2, h3⟩ := hw.objs id _ hl
    have hu : ∃ a cap, E.cur id = .slice a xs.length cap ∧ xs.length ≤ cap := by
      rcases hown.2 with ⟨hv, hn⟩ | ⟨g, cap, cur, hv, hgb, hh, hnc, _⟩
      · exact ⟨none, 0, by rw [hv, hn], by omega⟩
      · exact ⟨_, cap, hv, hnc⟩
    obtain ⟨a, cap, hv, hc⟩ := hu
    have hrun : (Instr.slice T (.slice a xs.length cap) none (some (.int q' j)) none).run P w = .ok (sliced a 0 j.toNat cap k) w := by
      have hj : 0 ≤ j ∧ j ≤ (cap : Int) := by omega
      simp [Instr.slice, run_underlying hT, Instr.sliceBounds, run_sliceBound, hj, run_size hk, sliced]
    have hel : P.elem T = e := by simp [Program.elem, hT]
    refine ⟨sliced a 0 j.toNat cap k, w, ?_, .refl _ _, fun e' xs' hl' => ?_⟩
    · simp only [execOp, ho, hr, hv, hz', Option.map_some, Option.map_none, Sem.run_bind, run_sliceAt_slice (P := P) (w := w) T _ _ _ _ (by rw [hel]; exact hT), hrun, Result.andThen_ok, Sem.run_pure]
    · rw [hl] at hl'
      simp only [Option.some.injEq, Ob.arr.injEq] at hl'
      obtain ⟨rfl, rfl⟩ := hl'
      exact ⟨by omega, a, _, cap, hv, by rw [cellsOf_of hk, Nat.zero_add]⟩
theorem addr_add0 (a : Addr) : a.add 0 = a := by
  unfold Addr.add
  (repeat' split) <;> simp_all
theorem SimE.retag {E : Env} {a : Act} {w : World} {t : Nat} {d : SV} (h : SimE P w0 M0 E s a w) (ht : t < s.n) (hv : SVok P M0 w E s.o (a.tmps.getD t undef) d) : SimE P w0 M0 E (s.put t d) a w := by
  refine ⟨h.size, h.defers, fun u e he => ?_, h.wok⟩
  simp only [St.put] at he ⊢
  rw [lookup_ins] at he
  split at he
  · rename_i hu
    subst hu
    simp only [Option.some.injEq] at he
    subst he
    exact ⟨ht, hv⟩
  · exact h.slots u e he
theorem imp_trunc {n t : Nat} (ht : s.s.lookup t = some (.vsl id 0 n)) (hl : s.o.lookup id = some (.arr e xs)) (hM0 : ∀ b, M0 b → b < w0.w.heap.size) (hnd : Nodup s.s = true) : Imp P w0 M0 s ((s.upd true id (.arr e (xs.take n))).put t (.own id)) := by
  rintro a w ⟨E, hs⟩
  obtain ⟨htn, hsv⟩ := hs.slots t _ ht
  obtain ⟨hle, ad, len, cap, hc, hv⟩ := hsv e xs hl
  rw [Nat.zero_add] at hle
  obtain ⟨vals, ⟨h1, hownF⟩, h2, h3⟩ := hs.wok.objs id _ hl
  have hv' : a.tmps.getD t undef = .slice ad n cap := by
    rw [hv]; unfold sliced
    simp only [Nat.zero_mul, Nat.zero_add, Nat.sub_zero, Value.slice.injEq, and_true]
    cases ad with
    | none => simp
    | some p => split <;> simp [addr_add0]
  have hob : (Value.slice ad n cap).ownBlock = (E.cur id).ownBlock := by rw [hc]; cases ad <;> rfl
  have hmul : n * P.cellsOf e ≤ xs.length * P.cellsOf e := Nat.mul_le_mul_right _ hle
  have hown : w.ownsRow 0 e (P.cellsOf e) (.slice ad n cap) (xs.take n).length (vals.take (n * P.cellsOf e)) := by
    obtain ⟨hvl, hform⟩ := h1
    refine ⟨by rw [List.length_take, List.length_take, Nat.min_eq_left (by omega), Nat.min_eq_left hle], ?_⟩
    have hxl : (xs.take n).length = n := by simp; omega
    rw [hxl]
    rcases hform with ⟨hv0, hn0⟩ | ⟨g, cap', cur, hv0, hgb, hh, hnc, hcm, hcs, htake⟩
    · rw [hv0] at hc
      simp only [Value.slice.injEq] at hc
      obtain ⟨rfl, rfl, rfl⟩ := hc
      exact .inl ⟨by rw [show n = 0 by omega], by omega⟩
    · rw [hv0] at hc
      simp only [Value.slice.injEq] at hc
      obtain ⟨rfl, rfl, rfl⟩ := hc
      refine .inr ⟨g, cap', cur, rfl, hgb, hh, by omega, hcm, hcs, ?_⟩
      rw [← htake, List.take_take, Nat.min_eq_left hmul]
  have h4 := hs.upd (E' := { E with cur := fun i => if i = id then .slice ad n cap else E.cur i }) (w' := w) (id := id) (ob' := .arr e (xs.take n)) true (fun h => by cases h) hnd hM0 (fun j hj => ⟨by simp [hj], rfl⟩) (.inr rfl) none ⟨rfl, rfl, rfl, Nat.le_refl _, fun _ _ _ => rfl⟩ (fun _ => Nat.le_refl _) (fun g hg => by cases hg) (fun b hb => .inl ⟨_, hl, by
      simp only [ownB, if_true] at hb ⊢
      rw [← hob]; exact hb⟩) (fun rep _ => ?_)
  · exact ⟨_, h4.retag (by simpa [St.upd] using htn) (by rw [hv']; exact sv_own_new)⟩
  · refine ⟨vals.take (n * P.cellsOf e), ⟨by simp only [if_true]; exact hown, fun b hb => hownF b (by simp only [if_true] at hb; rw [← hob]; exact hb)⟩, fun x hx => h2 x (List.mem_of_mem_take hx), fun j d hd => ?_⟩
    have hjx : (flat xs)[j]? = some d := by
      rw [← List.take_append_drop n xs, flat_append, List.getElem?_append_left (List.getElem?_eq_some_iff.1 hd).1]; exact hd
    have hjl : j < n * P.cellsOf e := by
      have h4 := (List.getElem?_eq_some_iff.1 hd).1
      rw [flat_length _ (fun x hx => h2 x (List.mem_of_mem_take hx)), List.length_take, Nat.min_eq_left hle] at h4
      exact h4
    have := h3 j d hjx
    refine ⟨this.1, ?_⟩
    have h6 := rep .pl _ _ this.2 (by simp)
    rw [List.getD_eq_getElem?_getD] at h6
    rw [List.getD_eq_getElem?_getD, List.getElem?_take, if_pos hjl]
    exact h6
theorem ol_trunc {ops : Array Oper} {Q : St → Prop} {l' : List Oper} {n : Nat} (t : Nat) (ht : s.s.lookup t = some (.vsl id 0 n)) (hl : s.o.lookup id = some (.arr e xs)) (hM0 : ∀ b, M0 b → b < w0.w.heap.size) (hnd : Nodup s.s = true) (h : OpsL P w0 M0 ops Q l' ((s.upd true id (.arr e (xs.take n))).put t (.own id))) : OpsL P w0 M0 ops Q l' s :=
  OpsL.imp (imp_trunc ht hl hM0 hnd) h
end
end Go.Am

namespace Go.Am
open Go.RowKit Go.ChangeShapes Go.WideShapes Go.Deep
set_option linter.unusedVariables false
section
variable {H : Type} {enc : TypeId × Value → H} {P : Program} {w : World} {base : Nat} {spare : Nat → Bool} {held : Bool}
theorem choose_list {α : Type} {p : Nat → α → Prop} (n : Nat) (h : ∀ i, i < n → ∃ a, p i a) : ∃ l : List α, l.length = n ∧ ∀ i a, l[i]? = some a → p i a := by
  induction n with
  | zero => exact ⟨[], rfl, fun i a h => by simp at h⟩
  | succ n ih =>
    obtain ⟨l, hl, hp⟩ := ih fun i hi => h i (by omega)
    obtain ⟨a, ha⟩ := h n (by omega)
    refine ⟨l ++ [a], by simp [hl], fun i b hb => ?_⟩
    rcases Nat.lt_or_ge i n with hi | hi
    · rw [List.getElem?_append_left (by omega)] at hb
      exact hp i b hb
    · rw [List.getElem?_append_right (by omega)] at hb
      have : i - l.length = 0 := by
        have := (List.getElem?_eq_some_iff.1 hb).1
        simp at this; omega
      rw [this] at hb
      simp only [List.getElem?_cons_zero, Option.some.injEq] at hb
      subst hb
      rw [show i = n by omega]; exact ha
theorem rep_slice {α : Type} {ad : α → AV} {ok : α → Prop} {t e : TypeId} (ht : P.underlying t = some (.slice e)) (hc : P.cellsOf e = 1) (hleaf : ∀ a, AV.leaf (ad a) = true ∧ AV.cells (ad a) = [ad a])
    (hel : ∀ (n : Nat) (v : Value) x, DataW.trod enc P w base spare held n e [v] = some x → ∃ a, ok a ∧ Rep w (fun _ => False) v (ad a)) {n : Nat} {v : Value} {x : DataW H × List MemPlace} (h : DataW.trod enc P w base spare held n t [v] = some x) :
    ∃ l : List α, (∀ a ∈ l, ok a) ∧ l.length ≤ 9223372036854775807 ∧ Rep w (fun _ => False) v (.sl (l.map ad)) := by
  rcases open_slice1 ht hc h with ⟨h1, _⟩ | ⟨a, len, cap, m, n', V, D, Pl, h1, hb, hl, hm, hmm, hx, hall⟩
  · simp only [List.cons.injEq, and_true] at h1
    subst h1
    exact ⟨[], fun a ha => (by cases ha), (by simp), .sl none 0 0 [] 1 (fun _ => undef) rfl (Nat.le_refl _) (fun x hx => by cases hx) (fun h => absurd h (by omega)) (fun j d hd => by simp [flat] at hd) (fun j d hd => by simp [flat] at hd)⟩
  · simp only [List.cons.injEq, and_true] at h1
    subst h1
    have hlm : len ≤ m := by rw [hmm]; split <;> omega
    obtain ⟨l, hll, hlp⟩ := choose_list (p := fun i a => ok a ∧ Rep w (fun _ => False) (V i) (ad a)) len fun i hi => hel n' (V i) _ (hall i (by omega)).2
    have hfl : flat (l.map ad) = l.map ad := by
      clear hll hlp
      induction l with
      | nil => rfl
      | cons a r ih => simp only [flat, List.map_cons, List.flatMap_cons] at ih ⊢; rw [ih, (hleaf a).2]; rfl
    refine ⟨l, fun a ha => ?_, by rw [hll]; unfold maxLen at hm; omega, ?_⟩
    · obtain ⟨i, hi, rfl⟩ := List.getElem_of_mem ha
      exact (hlp i _ (List.getElem?_eq_getElem hi)).1
    · refine .sl (some a) len cap _ 1 V (by simpa using hll) hl (fun x hx => ?_) (fun h0 => ?_) (fun j d hd => ?_) (fun j d hd => ?_)
      · obtain ⟨z, _, rfl⟩ := List.mem_map.1 hx
        rw [(hleaf z).2]; rfl
      · have h3 := (hall 0 (by omega)).1
        have h4 : w.cell? a = some (V 0) := by simpa [Addr.add] using h3
        obtain ⟨b, o, sp⟩ := a
        have hsp : sp = none := World.cell?_spot h4
        subst hsp
        refine ⟨b, o, rfl, fun hf => hf, World.block_lt_of_cell? w ⟨b, o, none⟩ h4, fun j hj => ?_⟩
        have := (hall j (by omega)).1
        rwa [Addr.add_lit] at this
      · rw [hfl, List.getElem?_map, Option.map_eq_some_iff] at hd
        obtain ⟨z, _, rfl⟩ := hd
        exact (hleaf z).1
      · rw [hfl, List.getElem?_map, Option.map_eq_some_iff] at hd
        obtain ⟨z, hz, rfl⟩ := hd
        exact (hlp j z hz).2
theorem trod_i64 {e : TypeId} (he : P.underlying e = some (.int .i64)) (n : Nat) (v : Value) (x : DataW H × List MemPlace) (h : DataW.trod enc P w base spare held n e [v] = some x) :
    ∃ z : Int, (-9223372036854775808 ≤ z ∧ z ≤ 9223372036854775807) ∧ Rep w (fun _ => False) v (int z) := by
  obtain ⟨z, h1, hx, hw⟩ := DataW.trod_int he h
  simp only [List.cons.injEq, and_true] at h1
  subst h1
  exact ⟨z, bounds_i64 hw, .sc _ rfl⟩
theorem one_slice {t e : TypeId} {r : Reach} {b0 : Nat} {v : Value} (ht : P.underlying t = some (.slice e)) (hval : Value.okWide P w r b0 t v) : v.cells.toList = [v] := by
  obtain ⟨a, len, cap, rfl⟩ := okWide_slice ht hval; rfl
theorem one_int {t : TypeId} {k : IntKind} {r : Reach} {b0 : Nat} {v : Value} (ht : P.underlying t = some (.int k)) (hval : Value.okWide P w r b0 t v) : v.cells.toList = [v] := by
  obtain ⟨a, rfl⟩ := okWide_int ht hval; rfl
theorem open_intsA {t e : TypeId} {r : Reach} {b0 : Nat} {v : Value} {d : DataW H} {ps : List MemPlace} (ht : P.underlying t = some (.slice e)) (he : P.underlying e = some (.int .i64)) (hc : szOf P e = some 1) (hval : Value.okWide P w r b0 t v) (hd : DataW.Trod enc P w base spare held t v d ps) :
    ∃ l : List Int, (∀ a ∈ l, -9223372036854775808 ≤ a ∧ a ≤ 9223372036854775807) ∧ l.length ≤ 9223372036854775807 ∧ Rep w (fun _ => False) v (.sl (l.map int)) := by
  obtain ⟨n, hn⟩ := hd
  rw [one_slice ht hval] at hn
  exact rep_slice ht (cellsOf_of hc) (fun a => ⟨rfl, rfl⟩) (trod_i64 he) hn
theorem open_intA {t : TypeId} {r : Reach} {b0 : Nat} {v : Value} {d : DataW H} {ps : List MemPlace} (ht : P.underlying t = some (.int .i64)) (hval : Value.okWide P w r b0 t v) (hd : DataW.Trod enc P w base spare held t v d ps) :
    ∃ z : Int, (-9223372036854775808 ≤ z ∧ z ≤ 9223372036854775807) ∧ Rep w (fun _ => False) v (int z) := by
  obtain ⟨n, hn⟩ := hd
  rw [one_int ht hval] at hn
  exact trod_i64 ht _ _ _ hn
theorem trodAll_stays (hl : laidOutB P = true) {W W' : World} {sp' : Nat → Bool} : ∀ {ts : List TypeId} {vs : List Value} {ds : List (DataW H)} {ps : List MemPlace}, (∀ t ∈ ts, P.readableRec t = true ∧ t < P.types.size) →
    DataW.TrodAll enc P W base (fun _ => true) true ts vs ds ps → (∀ p ∈ ps, W.sameAt W' p) → (∀ p ∈ ps, sp' p.block = true) → DataW.TrodAll enc P W' base sp' true ts vs ds ps
  | [], [], [], _, _, h, _, _ => h
  | t :: ts, v :: vs, d :: ds, _, ht, ⟨p, q, h1, h2, e⟩, hs, hp => ⟨p, q, WideElems.Trod_stays hl (ht t List.mem_cons_self).1 (ht t List.mem_cons_self).2 h1 (fun x hx => hs x (by rw [e]; exact List.mem_append_left _ hx)) (fun x hx => hp x (by rw [e]; exact List.mem_append_left _ hx)),
      trodAll_stays hl (fun t ht' => ht t (List.mem_cons_of_mem _ ht')) h2 (fun x hx => hs x (by rw [e]; exact List.mem_append_right _ hx)) (fun x hx => hp x (by rw [e]; exact List.mem_append_right _ hx)), e⟩
theorem law_post {D : Prop} {f : Func} {fid : FuncId} {s : ChangeSpec} {W : World} {args : Array Value} {ds gs : List (DataW H)} {before : List MemPlace} {tb : TypeId} (hl : laidOutB P = true) (hrec : (f.params.toList.all fun t => P.readableRec t && decide (t < P.types.size)) = true) (hres : f.resultTypes = #[tb]) (htb : P.underlying tb = some .bool)
    (hvars : s.vars = []) (hfn : s.fn H (ds ++ []) = { results := [.lit (.bool true)], args := ds, vars := [] }) (hW : DataW.Whole enc P f.params.toList s.vars false W args.toList ds gs before)
    (hcall : Calls P fid args W fun e W' => ∃ v, e = .returned v ∧ BelowD D W.heap.size W W' ∧ RVok P W' (fun b => b < W.heap.size) (fun b => b < W.heap.size) v (.p (bool true))) :
    Calls P fid args W fun e W' => ∃ v, e = .returned v ∧ s.post enc P f false true false false W args v W' := by
  have hW' := hW
  obtain ⟨p, q, hA, hV, hps, hfz, hnd⟩ := hW
  rw [hvars] at hV
  obtain ⟨hg, hq⟩ := trodVars_none hV
  subst hg hq
  refine hcall.mono fun e W' ⟨v, he, hb, hrv⟩ => ⟨v, he, ?_⟩
  have hv : v = .bool true := by
    have h : Rep W' _ v (bool true) := hrv
    generalize hz : bool true = z at h
    cases h <;> simp_all
  subst hv
  have hlt : ∀ x ∈ p, x.block < W.heap.size := fun x hx => hA.lt x hx
  have htrue : ∀ (b : Nat) (sp : Nat → Bool) (hd : Bool), DataW.TrodAll enc P W' b sp hd f.resultTypes.toList ((Value.bool true).resultList f.resultTypes.size) (s.fn H (ds ++ [])).results [] := fun b sp hd => by
    rw [hfn, hres]; exact trodAll_cons_mk (shut_bool htb _) trodAll_mk0
  have hargs : ∀ sp : Nat → Bool, (∀ x ∈ before, sp x.block = true) → DataW.TrodAll enc P W' 0 sp true f.params.toList args.toList (s.fn H (ds ++ [])).args p := fun sp hsp => by
    rw [hfn]
    refine trodAll_stays hl (fun t ht => ?_) hA (fun x hx => hb.toBelow.same (hlt x hx)) (fun x hx => hsp x (by rw [hps]; exact List.mem_append_left _ hx))
    have := List.all_eq_true.1 hrec t ht
    simpa using this
  have hold : ∀ x ∈ before, (fun b => decide (b < W.heap.size)) x.block = true := fun x hx => by simpa using hW'.lt x hx
  have hvr : ∀ sp : Nat → Bool, DataW.TrodVars enc P W' sp s.vars (s.fn H (ds ++ [])).vars [] := fun sp => by rw [hfn, hvars]; rfl
  refine ⟨ds, [], before, [], p, [], hW', htrue _ _ _, hargs _ hold, hvr _, World.keptBut_mono (fun x hx => hx) (hb.toBelow.frame _), fun _ => ?_⟩
  refine ⟨ok_one (t := tb) hres rfl (okWide_bool_mk htb _), _, _, ([] ++ p) ++ [], ⟨[] ++ p, [], trodAll_append (hargs _ (fun _ _ => rfl)) (htrue _ _ _), hvr _, rfl, ?_, fun h => by cases h⟩, ?_⟩
  · intro b off hp
    have hp' : MemPlace.cell b off ∈ before := by rw [hps]; simpa using hp
    exact (hb.toBelow.frozen (p := ⟨b, off, none⟩) (hW'.lt _ hp')).trans (hfz b off hp')
  · intro x hx _
    rw [hps]; simpa using hx
end
def Reps (w : World) (M : Nat → Prop) : List Value → List AV → Prop
  | [], [] => True
  | v :: vs, d :: ds => Rep w M v d ∧ Reps w M vs ds
  | _, _ => False
theorem Reps.get {w : World} {M : Nat → Prop} : ∀ {vs : List Value} {ds : List AV}, Reps w M vs ds → vs.length = ds.length ∧ ∀ (j : Nat) d, ds[j]? = some d → Rep w M (vs.getD j undef) d
  | [], [], _ => ⟨rfl, fun j d hd => by simp at hd⟩
  | v :: vs, d :: ds, h => by
    obtain ⟨h1, h2⟩ := h
    obtain ⟨h3, h4⟩ := Reps.get h2
    refine ⟨by simp [h3], fun j e he => ?_⟩
    cases j with
    | zero => simp only [List.getElem?_cons_zero, Option.some.injEq] at he; subst he; exact h1
    | succ j => exact h4 j e (by simpa using he)
theorem CallF.use {P : Program} {f : FuncId} {ds : List AV} {r : RV} (h : CallF P f ds r) {w : World} {vs : List Value} (hr : Reps w (fun _ => False) vs ds) :
    Calls P f vs.toArray w fun e w' => ∃ v, e = .returned v ∧ Below w.heap.size w w' ∧ RVok P w' (fun b => b < w.heap.size) (fun b => b < w.heap.size) v r :=
  h.2 w vs hr.get.1 hr.get.2
end Go.Am

namespace Go.Am
open Go.RowKit
set_option linter.unusedVariables false
section
variable {P : Program} {w0 : Fr} {M0 : Nat → Prop} {s s' : St}
def scopeQ (Q : Exit → St → Prop) : Exit → St → Prop
  | .goto _, _ => False
  | e, s => Q e s
theorem code_scope {c : Code} {Q : Exit → St → Prop} (h : CodeOk P w0 M0 c s (scopeQ Q)) : CodeOk P w0 M0 (.scope c) s Q := by
  intro a w hs
  refine wp_scope_straight (wp_mono (h a w hs) fun e a' w' ⟨s', h1, h2⟩ => ?_)
  cases e <;> first | exact h1.elim | exact ⟨s', h1, h2⟩
theorem code_label {l : Nat} {Q : Exit → St → Prop} (h : Q .normal s) : CodeOk P w0 M0 (.label l) s Q := fun a w hs => wp_label ⟨s, h, hs⟩
section ops
variable {o : Oper} {ρ : Operand → Option SV} {ob : List (Nat × Ob)} {x y z : Operand} {T T' e : TypeId} {k q : IntKind} {a b : Int} {c : Cls}
theorem pure_shr (ho : o.op = .binOp .shr T x y T') (hx : scal ρ x = some (.int k a)) (hy : scal ρ y = some (.int q b)) (hb : 0 ≤ b) : Pure P w0 M0 o ρ ob (.v .pl (.sc (.int k (a.fdiv (2 ^ (min b.toNat k.bits)))))) :=
  pure_bin ho hx hy rfl rfl (fun w => by simp only [binOp_shr, Op.shift, if_neg (show ¬ b < 0 by omega), Sem.run_pure])
theorem pure_shl (ho : o.op = .binOp .shl T x y T') (hx : scal ρ x = some (.int k a)) (hy : scal ρ y = some (.int q b)) (hb : 0 ≤ b) : Pure P w0 M0 o ρ ob (.v .pl (.sc (.int k (k.wrap (a * 2 ^ (min b.toNat k.bits)))))) :=
  pure_bin ho hx hy rfl rfl (fun w => by simp only [binOp_shl, Op.shift, if_neg (show ¬ b < 0 by omega), Sem.run_pure])
theorem pure_toi {c : Cls} {a a' : Int} (h : Pure P w0 M0 o ρ ob (.v c (.sc (.int k a)))) (e : a = a') : Pure P w0 M0 o ρ ob (.v c (.sc (.int k a'))) := by
  subst e; exact h
abbrev byteI (n : Int) : AV := .sc (.int .u8 n)
theorem numsOf_map : ∀ l : List Int, numsOf (l.map byteI) = some l
  | [] => rfl
  | n :: r => by
    show (match numsOf (r.map byteI) with | some l => some (n :: l) | none => none) = _
    rw [numsOf_map r]
theorem pure_btosm {l : List Int} (ho : o.op = .convert T T' x) (hT : P.underlying T = some (.slice e)) (he : P.underlying e = some (.int .u8)) (hT' : P.underlying T' = some .string) (hx : viewAt ρ ob x = some (c, .sl (l.map byteI))) :
    Pure P w0 M0 o ρ ob (.v .pl (sbytes (l.map fun n => UInt8.ofNat n.toNat))) := pure_btos ho hT he hT' hx (numsOf_map l)
theorem pure_eqsl {va : Option Addr} {n m n' m' : Nat} (ho : o.op = .binOp .eql T x y T') (hT : P.underlying T = some (.slice e)) (hx : scal ρ x = some (.slice va n m)) (hy : scal ρ y = some (.slice none n' m')) : Pure P w0 M0 o ρ ob (.v .pl (bool va.isNone)) :=
  pure_value fun E w ev hw h => by
    have hxv : ev x = .slice va n m := scal_ok h hx
    have hyv : ev y = .slice none n' m' := scal_ok h hy
    exact ⟨.bool va.isNone, w, by simp [execOp, ho, hxv, hyv, eqGuard, Lib.run_eql_slice_nil w _ _ _ _ _ _ _ hT], .refl _ _, .sc _ rfl⟩
theorem pure_eqsl_ne {xs : List AV} {n' m' : Nat} (ho : o.op = .binOp .eql T x y T') (hT : P.underlying T = some (.slice e)) (hx : viewAt ρ ob x = some (c, .sl xs)) (hy : scal ρ y = some (.slice none n' m')) (h0 : 0 < xs.length) : Pure P w0 M0 o ρ ob (.v .pl (bool false)) :=
  pure_value fun E w ev hw h => by
    have hr := viewAt_ok hw h hx
    have hyv : ev y = .slice none n' m' := scal_ok h hy
    generalize hq : ev x = q at hr
    cases hr with
    | sl a n cap _ k cv hn hc hk hb hl hr =>
      obtain ⟨b, of, rfl, _⟩ := hb (by omega)
      exact ⟨.bool false, w, by simp [execOp, ho, hq, hyv, eqGuard, Lib.run_eql_slice_nil w _ _ _ _ _ _ _ hT], .refl _ _, .sc _ rfl⟩
theorem src_sc0 {s : St} {y : Operand} {va : Option Addr} {m k : Nat} (hy : scal s.ev y = some (.slice va 0 m)) : Src P w0 M0 s y k [] := by
  intro E a w hs
  have hv : a.eval y = .slice va 0 m := scal_ok (ρ := s.ev) (ob := s.o) (fun x e hx => hs.ev hx) hy
  exact ⟨va, 0, m, [], hv, rfl, by simp, fun h => absurd h (by omega), fun x hx => (by cases hx), fun j d hd => (by simp [flat] at hd)⟩
end ops
end
end Go.Am

