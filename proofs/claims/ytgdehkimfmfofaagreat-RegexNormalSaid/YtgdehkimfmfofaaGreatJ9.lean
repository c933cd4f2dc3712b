/-
  Plain functions: expressions, their sets, validity, numbers of nodes, order.
-/
import Derived.Test.YtgdehkimfmfofaaGreatJ8
import Derived.ProofKit
import Derived.OpenShut
import Derived.Carry
import Derived.Handed
import Derived.Deep.Slices
import Derived.WideKeyArgs
import Derived.Scope
import Derived.Control
import Derived.Lib.SliceRun
set_option linter.unusedVariables false
set_option linter.unusedSimpArgs false
namespace Go.Am
open Go.RowKit
set_option linter.unusedVariables false
section
variable {P : Program} {w0 : Fr} {M0 : Nat → Prop} {s : St}
variable {o : Oper} {ρ : Operand → Option SV} {ob : List (Nat × Ob)} {x y z : Operand} {T e : TypeId} {k : Nat} {xs : List AV} {id : Nat}
theorem pure_to {c : Cls} {b b' : Bool} (h : Pure P w0 M0 o ρ ob (.v c (bool b))) (e : b = b') : Pure P w0 M0 o ρ ob (.v c (bool b')) := by
  subst e; exact h
theorem pure_callb {cx : Operand} {args : Array Operand} {ats : Array TypeId} {c : Cls} {f : FuncId} {caps ds : List AV} {b b' : Bool}
    (ho : o.op = .call { callee := .value cx, args := args, argTypes := ats }) (hc : ρ cx = some (.v c (.clo f caps))) (ha : viewAll ρ ob args.toList = some ds) (h : CallF P f (ds ++ caps) (.p (bool b)))
    (hM0 : ∀ b, M0 b → b < w0.w.heap.size) (e : b = b') : Pure P w0 M0 o ρ ob (.v .pl (bool b')) := by
  subst e; exact pure_call ho hc ha h hM0
theorem pure_slice_own {q' : IntKind} {j : Int} (ho : o.op = .slice T x none (some z) none) (hT : P.underlying T = some (.slice e)) (hk : szOf P e = some k) (hx : ρ x = some (.own id)) (hl : ob.lookup id = some (.arr e xs)) (hz : scal ρ z = some (.int q' j)) (h : 0 ≤ j ∧ j ≤ xs.length) :
    Pure P w0 M0 o ρ ob (.vsl id 0 j.toNat) :=
  pure_value fun E w ev hw hh => by
    have hr := hh x _ hx e xs hl
    have hz' := scal_ok hh hz
    obtain ⟨vals, ⟨hown, hownF⟩, h2, h3⟩ := hw.objs id _ hl
    have hu : ∃ a cap, E.cur id = .slice a xs.length cap ∧ xs.length ≤ cap := by
      rcases hown.2 with ⟨hv, hn⟩ | ⟨g, cap, cur, hv, hgb, hh, hnc, _⟩
      · exact ⟨none, 0, by rw [hv, hn], by omega⟩
      · exact ⟨_, cap, hv, hnc⟩
    obtain ⟨a, cap, hv, hc⟩ := hu
    have hrun : (Instr.slice T (.slice a xs.length cap) none (some (.int q' j)) none).run P w = .ok (sliced a 0 j.toNat cap k) w := by
      have hj : 0 ≤ j ∧ j ≤ (cap : Int) := by omega
      simp [Instr.slice, run_underlying hT, Instr.sliceBounds, run_sliceBound, hj, run_size hk, sliced]
    have hel : P.elem T = e := by simp [Program.elem, hT]
    refine ⟨sliced a 0 j.toNat cap k, w, ?_, .refl _ _, fun e' xs' hl' => ?_⟩
    · simp only [execOp, ho, hr, hv, hz', Option.map_some, Option.map_none, Sem.run_bind, run_sliceAt_slice (P := P) (w := w) T _ _ _ _ (by rw [hel]; exact hT), hrun, Result.andThen_ok, Sem.run_pure]
    · rw [hl] at hl'
      simp only [Option.some.injEq, Ob.arr.injEq] at hl'
      obtain ⟨rfl, rfl⟩ := hl'
      exact ⟨by omega, a, _, cap, hv, by rw [cellsOf_of hk, Nat.zero_add]⟩
theorem addr_add0 (a : Addr) : a.add 0 = a := by
  unfold Addr.add
  (repeat' split) <;> simp_all
theorem SimE.retag {E : Env} {a : Act} {w : World} {t : Nat} {d : SV} (h : SimE P w0 M0 E s a w) (ht : t < s.n) (hv : SVok P M0 w E s.o (a.tmps.getD t undef) d) : SimE P w0 M0 E (s.put t d) a w := by
  refine ⟨h.size, h.defers, fun u e he => ?_, h.wok⟩
  simp only [St.put] at he ⊢
  rw [lookup_ins] at he
  split at he
  · rename_i hu
    subst hu
    simp only [Option.some.injEq] at he
    subst he
    exact ⟨ht, hv⟩
  · exact h.slots u e he
theorem imp_trunc {n t : Nat} (ht : s.s.lookup t = some (.vsl id 0 n)) (hl : s.o.lookup id = some (.arr e xs)) (hM0 : ∀ b, M0 b → b < w0.w.heap.size) (hnd : Nodup s.s = true) : Imp P w0 M0 s ((s.upd true id (.arr e (xs.take n))).put t (.own id)) := by
  rintro a w ⟨E, hs⟩
  obtain ⟨htn, hsv⟩ := hs.slots t _ ht
  obtain ⟨hle, ad, len, cap, hc, hv⟩ := hsv e xs hl
  rw [Nat.zero_add] at hle
  obtain ⟨vals, ⟨h1, hownF⟩, h2, h3⟩ := hs.wok.objs id _ hl
  have hv' : a.tmps.getD t undef = .slice ad n cap := by
    rw [hv]; unfold sliced
    simp only [Nat.zero_mul, Nat.zero_add, Nat.sub_zero, Value.slice.injEq, and_true]
    cases ad with
    | none => simp
    | some p => split <;> simp [addr_add0]
  have hob : (Value.slice ad n cap).ownBlock = (E.cur id).ownBlock := by rw [hc]; cases ad <;> rfl
  have hmul : n * P.cellsOf e ≤ xs.length * P.cellsOf e := Nat.mul_le_mul_right _ hle
  have hown : w.ownsRow 0 e (P.cellsOf e) (.slice ad n cap) (xs.take n).length (vals.take (n * P.cellsOf e)) := by
    obtain ⟨hvl, hform⟩ := h1
    refine ⟨by rw [List.length_take, List.length_take, Nat.min_eq_left (by omega), Nat.min_eq_left hle], ?_⟩
    have hxl : (xs.take n).length = n := by simp; omega
    rw [hxl]
    rcases hform with ⟨hv0, hn0⟩ | ⟨g, cap', cur, hv0, hgb, hh, hnc, hcm, hcs, htake⟩
    · rw [hv0] at hc
      simp only [Value.slice.injEq] at hc
      obtain ⟨rfl, rfl, rfl⟩ := hc
      exact .inl ⟨by rw [show n = 0 by omega], by omega⟩
    · rw [hv0] at hc
      simp only [Value.slice.injEq] at hc
      obtain ⟨rfl, rfl, rfl⟩ := hc
      refine .inr ⟨g, cap', cur, rfl, hgb, hh, by omega, hcm, hcs, ?_⟩
      rw [← htake, List.take_take, Nat.min_eq_left hmul]
  have h4 := hs.upd (E' := { E with cur := fun i => if i = id then .slice ad n cap else E.cur i }) (w' := w) (id := id) (ob' := .arr e (xs.take n)) true (fun h => by cases h) hnd hM0 (fun j hj => ⟨by simp [hj], rfl⟩) (.inr rfl) none ⟨rfl, rfl, rfl, Nat.le_refl _, fun _ _ _ => rfl⟩ (fun _ => Nat.le_refl _) (fun g hg => by cases hg) (fun b hb => .inl ⟨_, hl, by
      simp only [ownB, if_true] at hb ⊢
      rw [← hob]; exact hb⟩) (fun rep _ => ?_)
  · exact ⟨_, h4.retag (by simpa [St.upd] using htn) (by rw [hv']; exact sv_own_new)⟩
  · refine ⟨vals.take (n * P.cellsOf e), ⟨by simp only [if_true]; exact hown, fun b hb => hownF b (by simp only [if_true] at hb; rw [← hob]; exact hb)⟩, fun x hx => h2 x (List.mem_of_mem_take hx), fun j d hd => ?_⟩
    have hjx : (flat xs)[j]? = some d := by
      rw [← List.take_append_drop n xs, flat_append, List.getElem?_append_left (List.getElem?_eq_some_iff.1 hd).1]; exact hd
    have hjl : j < n * P.cellsOf e := by
      have h4 := (List.getElem?_eq_some_iff.1 hd).1
      rw [flat_length _ (fun x hx => h2 x (List.mem_of_mem_take hx)), List.length_take, Nat.min_eq_left hle] at h4
      exact h4
    have := h3 j d hjx
    refine ⟨this.1, ?_⟩
    have h6 := rep .pl _ _ this.2 (by simp)
    rw [List.getD_eq_getElem?_getD] at h6
    rw [List.getD_eq_getElem?_getD, List.getElem?_take, if_pos hjl]
    exact h6
theorem ol_trunc {ops : Array Oper} {Q : St → Prop} {l' : List Oper} {n : Nat} (t : Nat) (ht : s.s.lookup t = some (.vsl id 0 n)) (hl : s.o.lookup id = some (.arr e xs)) (hM0 : ∀ b, M0 b → b < w0.w.heap.size) (hnd : Nodup s.s = true) (h : OpsL P w0 M0 ops Q l' ((s.upd true id (.arr e (xs.take n))).put t (.own id))) : OpsL P w0 M0 ops Q l' s :=
  OpsL.imp (imp_trunc ht hl hM0 hnd) h
end
end Go.Am

namespace Go.Am
open Go.RowKit Go.ChangeShapes Go.WideShapes Go.Deep
set_option linter.unusedVariables false
section
variable {H : Type} {enc : TypeId × Value → H} {P : Program} {w : World} {base : Nat} {spare : Nat → Bool} {held : Bool}
theorem choose_list {α : Type} {p : Nat → α → Prop} (n : Nat) (h : ∀ i, i < n → ∃ a, p i a) : ∃ l : List α, l.length = n ∧ ∀ i a, l[i]? = some a → p i a := by
  induction n with
  | zero => exact ⟨[], rfl, fun i a h => by simp at h⟩
  | succ n ih =>
    obtain ⟨l, hl, hp⟩ := ih fun i hi => h i (by omega)
    obtain ⟨a, ha⟩ := h n (by omega)
    refine ⟨l ++ [a], by simp [hl], fun i b hb => ?_⟩
    rcases Nat.lt_or_ge i n with hi | hi
    · rw [List.getElem?_append_left (by omega)] at hb
      exact hp i b hb
    · rw [List.getElem?_append_right (by omega)] at hb
      have : i - l.length = 0 := by
        have := (List.getElem?_eq_some_iff.1 hb).1
        simp at this; omega
      rw [this] at hb
      simp only [List.getElem?_cons_zero, Option.some.injEq] at hb
      subst hb
      rw [show i = n by omega]; exact ha
theorem rep_slice {α : Type} {ad : α → AV} {ok : α → Prop} {t e : TypeId} (ht : P.underlying t = some (.slice e)) (hc : P.cellsOf e = 1) (hleaf : ∀ a, AV.leaf (ad a) = true ∧ AV.cells (ad a) = [ad a])
    (hel : ∀ (n : Nat) (v : Value) x, DataW.trod enc P w base spare held n e [v] = some x → ∃ a, ok a ∧ Rep w (fun _ => False) v (ad a)) {n : Nat} {v : Value} {x : DataW H × List MemPlace} (h : DataW.trod enc P w base spare held n t [v] = some x) :
    ∃ l : List α, (∀ a ∈ l, ok a) ∧ l.length ≤ 9223372036854775807 ∧ Rep w (fun _ => False) v (.sl (l.map ad)) := by
  rcases open_slice1 ht hc h with ⟨h1, _⟩ | ⟨a, len, cap, m, n', V, D, Pl, h1, hb, hl, hm, hmm, hx, hall⟩
  · simp only [List.cons.injEq, and_true] at h1
    subst h1
    exact ⟨[], fun a ha => (by cases ha), (by simp), .sl none 0 0 [] 1 (fun _ => undef) rfl (Nat.le_refl _) (fun x hx => by cases hx) (fun h => absurd h (by omega)) (fun j d hd => by simp [flat] at hd) (fun j d hd => by simp [flat] at hd)⟩
  · simp only [List.cons.injEq, and_true] at h1
    subst h1
    have hlm : len ≤ m := by rw [hmm]; split <;> omega
    obtain ⟨l, hll, hlp⟩ := choose_list (p := fun i a => ok a ∧ Rep w (fun _ => False) (V i) (ad a)) len fun i hi => hel n' (V i) _ (hall i (by omega)).2
    have hfl : flat (l.map ad) = l.map ad := by
      clear hll hlp
      induction l with
      | nil => rfl
      | cons a r ih => simp only [flat, List.map_cons, List.flatMap_cons] at ih ⊢; rw [ih, (hleaf a).2]; rfl
    refine ⟨l, fun a ha => ?_, by rw [hll]; unfold maxLen at hm; omega, ?_⟩
    · obtain ⟨i, hi, rfl⟩ := List.getElem_of_mem ha
      exact (hlp i _ (List.getElem?_eq_getElem hi)).1
    · refine .sl (some a) len cap _ 1 V (by simpa using hll) hl (fun x hx => ?_) (fun h0 => ?_) (fun j d hd => ?_) (fun j d hd => ?_)
      · obtain ⟨z, _, rfl⟩ := List.mem_map.1 hx
        rw [(hleaf z).2]; rfl
      · have h3 := (hall 0 (by omega)).1
        have h4 : w.cell? a = some (V 0) := by simpa [Addr.add] using h3
        obtain ⟨b, o, sp⟩ := a
        have hsp : sp = none := World.cell?_spot h4
        subst hsp
        refine ⟨b, o, rfl, fun hf => hf, World.block_lt_of_cell? w ⟨b, o, none⟩ h4, fun j hj => ?_⟩
        have := (hall j (by omega)).1
        rwa [Addr.add_lit] at this
      · rw [hfl, List.getElem?_map, Option.map_eq_some_iff] at hd
        obtain ⟨z, _, rfl⟩ := hd
        exact (hleaf z).1
      · rw [hfl, List.getElem?_map, Option.map_eq_some_iff] at hd
        obtain ⟨z, hz, rfl⟩ := hd
        exact (hlp j z hz).2
theorem trod_i64 {e : TypeId} (he : P.underlying e = some (.int .i64)) (n : Nat) (v : Value) (x : DataW H × List MemPlace) (h : DataW.trod enc P w base spare held n e [v] = some x) :
    ∃ z : Int, (-9223372036854775808 ≤ z ∧ z ≤ 9223372036854775807) ∧ Rep w (fun _ => False) v (int z) := by
  obtain ⟨z, h1, hx, hw⟩ := DataW.trod_int he h
  simp only [List.cons.injEq, and_true] at h1
  subst h1
  exact ⟨z, bounds_i64 hw, .sc _ rfl⟩
theorem one_slice {t e : TypeId} {r : Reach} {b0 : Nat} {v : Value} (ht : P.underlying t = some (.slice e)) (hval : Value.okWide P w r b0 t v) : v.cells.toList = [v] := by
  obtain ⟨a, len, cap, rfl⟩ := okWide_slice ht hval; rfl
theorem one_int {t : TypeId} {k : IntKind} {r : Reach} {b0 : Nat} {v : Value} (ht : P.underlying t = some (.int k)) (hval : Value.okWide P w r b0 t v) : v.cells.toList = [v] := by
  obtain ⟨a, rfl⟩ := okWide_int ht hval; rfl
theorem open_intsA {t e : TypeId} {r : Reach} {b0 : Nat} {v : Value} {d : DataW H} {ps : List MemPlace} (ht : P.underlying t = some (.slice e)) (he : P.underlying e = some (.int .i64)) (hc : szOf P e = some 1) (hval : Value.okWide P w r b0 t v) (hd : DataW.Trod enc P w base spare held t v d ps) :
    ∃ l : List Int, (∀ a ∈ l, -9223372036854775808 ≤ a ∧ a ≤ 9223372036854775807) ∧ l.length ≤ 9223372036854775807 ∧ Rep w (fun _ => False) v (.sl (l.map int)) := by
  obtain ⟨n, hn⟩ := hd
  rw [one_slice ht hval] at hn
  exact rep_slice ht (cellsOf_of hc) (fun a => ⟨rfl, rfl⟩) (trod_i64 he) hn
theorem open_intA {t : TypeId} {r : Reach} {b0 : Nat} {v : Value} {d : DataW H} {ps : List MemPlace} (ht : P.underlying t = some (.int .i64)) (hval : Value.okWide P w r b0 t v) (hd : DataW.Trod enc P w base spare held t v d ps) :
    ∃ z : Int, (-9223372036854775808 ≤ z ∧ z ≤ 9223372036854775807) ∧ Rep w (fun _ => False) v (int z) := by
  obtain ⟨n, hn⟩ := hd
  rw [one_int ht hval] at hn
  exact trod_i64 ht _ _ _ hn
theorem trodAll_stays (hl : laidOutB P = true) {W W' : World} {sp' : Nat → Bool} : ∀ {ts : List TypeId} {vs : List Value} {ds : List (DataW H)} {ps : List MemPlace}, (∀ t ∈ ts, P.readableRec t = true ∧ t < P.types.size) →
    DataW.TrodAll enc P W base (fun _ => true) true ts vs ds ps → (∀ p ∈ ps, W.sameAt W' p) → (∀ p ∈ ps, sp' p.block = true) → DataW.TrodAll enc P W' base sp' true ts vs ds ps
  | [], [], [], _, _, h, _, _ => h
  | t :: ts, v :: vs, d :: ds, _, ht, ⟨p, q, h1, h2, e⟩, hs, hp => ⟨p, q, WideElems.Trod_stays hl (ht t List.mem_cons_self).1 (ht t List.mem_cons_self).2 h1 (fun x hx => hs x (by rw [e]; exact List.mem_append_left _ hx)) (fun x hx => hp x (by rw [e]; exact List.mem_append_left _ hx)),
      trodAll_stays hl (fun t ht' => ht t (List.mem_cons_of_mem _ ht')) h2 (fun x hx => hs x (by rw [e]; exact List.mem_append_right _ hx)) (fun x hx => hp x (by rw [e]; exact List.mem_append_right _ hx)), e⟩
theorem law_post {D : Prop} {f : Func} {fid : FuncId} {s : ChangeSpec} {W : World} {args : Array Value} {ds gs : List (DataW H)} {before : List MemPlace} {tb : TypeId} (hl : laidOutB P = true) (hrec : (f.params.toList.all fun t => P.readableRec t && decide (t < P.types.size)) = true) (hres : f.resultTypes = #[tb]) (htb : P.underlying tb = some .bool)
    (hvars : s.vars = []) (hfn : s.fn H (ds ++ []) = { results := [.lit (.bool true)], args := ds, vars := [] }) (hW : DataW.Whole enc P f.params.toList s.vars false W args.toList ds gs before)
    (hcall : Calls P fid args W fun e W' => ∃ v, e = .returned v ∧ BelowD D W.heap.size W W' ∧ RVok P W' (fun b => b < W.heap.size) (fun b => b < W.heap.size) v (.p (bool true))) :
    Calls P fid args W fun e W' => ∃ v, e = .returned v ∧ s.post enc P f false true false false W args v W' := by
  have hW' := hW
  obtain ⟨p, q, hA, hV, hps, hfz, hnd⟩ := hW
  rw [hvars] at hV
  obtain ⟨hg, hq⟩ := trodVars_none hV
  subst hg hq
  refine hcall.mono fun e W' ⟨v, he, hb, hrv⟩ => ⟨v, he, ?_⟩
  have hv : v = .bool true := by
    have h : Rep W' _ v (bool true) := hrv
    generalize hz : bool true = z at h
    cases h <;> simp_all
  subst hv
  have hlt : ∀ x ∈ p, x.block < W.heap.size := fun x hx => hA.lt x hx
  have htrue : ∀ (b : Nat) (sp : Nat → Bool) (hd : Bool), DataW.TrodAll enc P W' b sp hd f.resultTypes.toList ((Value.bool true).resultList f.resultTypes.size) (s.fn H (ds ++ [])).results [] := fun b sp hd => by
    rw [hfn, hres]; exact trodAll_cons_mk (shut_bool htb _) trodAll_mk0
  have hargs : ∀ sp : Nat → Bool, (∀ x ∈ before, sp x.block = true) → DataW.TrodAll enc P W' 0 sp true f.params.toList args.toList (s.fn H (ds ++ [])).args p := fun sp hsp => by
    rw [hfn]
    refine trodAll_stays hl (fun t ht => ?_) hA (fun x hx => hb.toBelow.same (hlt x hx)) (fun x hx => hsp x (by rw [hps]; exact List.mem_append_left _ hx))
    have := List.all_eq_true.1 hrec t ht
    simpa using this
  have hold : ∀ x ∈ before, (fun b => decide (b < W.heap.size)) x.block = true := fun x hx => by simpa using hW'.lt x hx
  have hvr : ∀ sp : Nat → Bool, DataW.TrodVars enc P W' sp s.vars (s.fn H (ds ++ [])).vars [] := fun sp => by rw [hfn, hvars]; rfl
  refine ⟨ds, [], before, [], p, [], hW', htrue _ _ _, hargs _ hold, hvr _, World.keptBut_mono (fun x hx => hx) (hb.toBelow.frame _), fun _ => ?_⟩
  refine ⟨ok_one (t := tb) hres rfl (okWide_bool_mk htb _), _, _, ([] ++ p) ++ [], ⟨[] ++ p, [], trodAll_append (hargs _ (fun _ _ => rfl)) (htrue _ _ _), hvr _, rfl, ?_, fun h => by cases h⟩, ?_⟩
  · intro b off hp
    have hp' : MemPlace.cell b off ∈ before := by rw [hps]; simpa using hp
    exact (hb.toBelow.frozen (p := ⟨b, off, none⟩) (hW'.lt _ hp')).trans (hfz b off hp')
  · intro x hx _
    rw [hps]; simpa using hx
end
def Reps (w : World) (M : Nat → Prop) : List Value → List AV → Prop
  | [], [] => True
  | v :: vs, d :: ds => Rep w M v d ∧ Reps w M vs ds
  | _, _ => False
theorem Reps.get {w : World} {M : Nat → Prop} : ∀ {vs : List Value} {ds : List AV}, Reps w M vs ds → vs.length = ds.length ∧ ∀ (j : Nat) d, ds[j]? = some d → Rep w M (vs.getD j undef) d
  | [], [], _ => ⟨rfl, fun j d hd => by simp at hd⟩
  | v :: vs, d :: ds, h => by
    obtain ⟨h1, h2⟩ := h
    obtain ⟨h3, h4⟩ := Reps.get h2
    refine ⟨by simp [h3], fun j e he => ?_⟩
    cases j with
    | zero => simp only [List.getElem?_cons_zero, Option.some.injEq] at he; subst he; exact h1
    | succ j => exact h4 j e (by simpa using he)
theorem CallF.use {P : Program} {f : FuncId} {ds : List AV} {r : RV} (h : CallF P f ds r) {w : World} {vs : List Value} (hr : Reps w (fun _ => False) vs ds) :
    Calls P f vs.toArray w fun e w' => ∃ v, e = .returned v ∧ Below w.heap.size w w' ∧ RVok P w' (fun b => b < w.heap.size) (fun b => b < w.heap.size) v r :=
  h.2 w vs hr.get.1 hr.get.2
end Go.Am

namespace Go.Am
open Go.RowKit
set_option linter.unusedVariables false
section
variable {P : Program} {w0 : Fr} {M0 : Nat → Prop} {s s' : St}
def scopeQ (Q : Exit → St → Prop) : Exit → St → Prop
  | .goto _, _ => False
  | e, s => Q e s
section ops
variable {o : Oper} {ρ : Operand → Option SV} {ob : List (Nat × Ob)} {x y z : Operand} {T T' e : TypeId} {k q : IntKind} {a b : Int} {c : Cls}
theorem pure_shr (ho : o.op = .binOp .shr T x y T') (hx : scal ρ x = some (.int k a)) (hy : scal ρ y = some (.int q b)) (hb : 0 ≤ b) : Pure P w0 M0 o ρ ob (.v .pl (.sc (.int k (a.fdiv (2 ^ (min b.toNat k.bits)))))) :=
  pure_bin ho hx hy rfl rfl (fun w => by simp only [binOp_shr, Op.shift, if_neg (show ¬ b < 0 by omega), Sem.run_pure])
theorem pure_toi {c : Cls} {a a' : Int} (h : Pure P w0 M0 o ρ ob (.v c (.sc (.int k a)))) (e : a = a') : Pure P w0 M0 o ρ ob (.v c (.sc (.int k a'))) := by
  subst e; exact h
abbrev byteI (n : Int) : AV := .sc (.int .u8 n)
theorem pure_eqsl {va : Option Addr} {n m n' m' : Nat} (ho : o.op = .binOp .eql T x y T') (hT : P.underlying T = some (.slice e)) (hx : scal ρ x = some (.slice va n m)) (hy : scal ρ y = some (.slice none n' m')) : Pure P w0 M0 o ρ ob (.v .pl (bool va.isNone)) :=
  pure_value fun E w ev hw h => by
    have hxv : ev x = .slice va n m := scal_ok h hx
    have hyv : ev y = .slice none n' m' := scal_ok h hy
    exact ⟨.bool va.isNone, w, by simp [execOp, ho, hxv, hyv, eqGuard, Lib.run_eql_slice_nil w _ _ _ _ _ _ _ hT], .refl _ _, .sc _ rfl⟩
theorem pure_eqsl_ne {xs : List AV} {n' m' : Nat} (ho : o.op = .binOp .eql T x y T') (hT : P.underlying T = some (.slice e)) (hx : viewAt ρ ob x = some (c, .sl xs)) (hy : scal ρ y = some (.slice none n' m')) (h0 : 0 < xs.length) : Pure P w0 M0 o ρ ob (.v .pl (bool false)) :=
  pure_value fun E w ev hw h => by
    have hr := viewAt_ok hw h hx
    have hyv : ev y = .slice none n' m' := scal_ok h hy
    generalize hq : ev x = q at hr
    cases hr with
    | sl a n cap _ k cv hn hc hk hb hl hr =>
      obtain ⟨b, of, rfl, _⟩ := hb (by omega)
      exact ⟨.bool false, w, by simp [execOp, ho, hq, hyv, eqGuard, Lib.run_eql_slice_nil w _ _ _ _ _ _ _ hT], .refl _ _, .sc _ rfl⟩
theorem src_sc0 {s : St} {y : Operand} {va : Option Addr} {m k : Nat} (hy : scal s.ev y = some (.slice va 0 m)) : Src P w0 M0 s y k [] := by
  intro E a w hs
  have hv : a.eval y = .slice va 0 m := scal_ok (ρ := s.ev) (ob := s.o) (fun x e hx => hs.ev hx) hy
  exact ⟨va, 0, m, [], hv, rfl, by simp, fun h => absurd h (by omega), fun x hx => (by cases hx), fun j d hd => (by simp [flat] at hd)⟩
end ops
end
end Go.Am

namespace Go.Wb
open Go.Am
inductive Rx where
  | mk (kind : Int) (syms : List Int) (kids : List Rx)
def Rx.kind : Rx → Int | .mk k _ _ => k
def Rx.syms : Rx → List Int | .mk _ s _ => s
def Rx.kids : Rx → List Rx | .mk _ _ l => l
instance : Inhabited Rx := ⟨.mk 0 [] []⟩
mutual
def Rx.av : Rx → AV
  | .mk k s l => .agg [int k, ints s, .sl (Rx.avs l)]
def Rx.avs : List Rx → List AV
  | [] => []
  | x :: l => x.av :: Rx.avs l
end
def rx (r : Rx) : AV := .agg [int r.kind, ints r.syms, .sl (Rx.avs r.kids)]
abbrev rxs (l : List Rx) : AV := .sl (l.map rx)
theorem av_eq (r : Rx) : r.av = rx r := by cases r with | mk k s l => rw [Rx.av]; rfl
theorem avs_eq : ∀ l : List Rx, Rx.avs l = l.map rx
  | [] => by rw [Rx.avs]; rfl
  | x :: l => by rw [Rx.avs, avs_eq l, av_eq]; rfl
theorem rx_eq (r : Rx) : rx r = .agg [int r.kind, ints r.syms, rxs r.kids] := by unfold rx; rw [avs_eq]
abbrev rpc (r : Rx) : AV := .pc [int r.kind, ints r.syms, rxs r.kids] 0
abbrev rcells (c : Cls) (r : Rx) : List SV := [.v c (int r.kind), .v c (ints r.syms), .v c (rxs r.kids)]
mutual
def Rx.size : Rx → Nat
  | .mk _ s l => 1 + s.length + Rx.sizes l
def Rx.sizes : List Rx → Nat
  | [] => 0
  | x :: l => x.size + Rx.sizes l
end
theorem size_mem : ∀ {l : List Rx} {x : Rx}, x ∈ l → x.size ≤ Rx.sizes l
  | y :: l, x, h => by
    rw [Rx.sizes]
    rcases List.mem_cons.1 h with rfl | h
    · omega
    · have := size_mem h; omega
theorem size_kid {r x : Rx} (h : x ∈ r.kids) : x.size < r.size := by
  cases r with | mk k s l => rw [Rx.size]; have := size_mem (l := l) h; omega

theorem size_pos (r : Rx) : 1 ≤ r.size := by cases r with | mk k s l => rw [Rx.size]; omega
theorem kid_mem {l : List Rx} {i : Nat} (h : i < l.length) : l.getD i default ∈ l := by
  rw [List.getD_eq_getElem?_getD, List.getElem?_eq_getElem h]; exact List.getElem_mem h
theorem kid_lt {r : Rx} {i : Nat} (h : i < r.kids.length) : (r.kids.getD i default).size < r.size := size_kid (kid_mem h)
theorem drop_cons {α : Type} [Inhabited α] {l : List α} {k : Nat} (h : k < l.length) : l.drop k = l.getD k default :: l.drop (k + 1) := by
  rw [List.drop_eq_getElem_cons h, List.getD_eq_getElem?_getD, List.getElem?_eq_getElem h]; rfl
theorem sizes_len : ∀ l : List Rx, l.length ≤ Rx.sizes l
  | [] => Nat.zero_le _
  | x :: l => by rw [Rx.sizes, List.length_cons]; have := sizes_len l; have := size_pos x; omega
theorem size_eq (r : Rx) : r.size = 1 + r.syms.length + Rx.sizes r.kids := by cases r with | mk k s l => rw [Rx.size]; rfl
theorem syms_len (r : Rx) : r.syms.length < r.size := by rw [size_eq]; omega
theorem kids_len (r : Rx) : r.kids.length < r.size := by rw [size_eq]; have := sizes_len r.kids; omega

mutual
def nodesV (most : Int) : Rx → Int
  | .mk _ _ l => nodesG most 1 l
def nodesG (most : Int) (n : Int) : List Rx → Int
  | [] => n
  | x :: l => if n ≤ most then nodesG most (n + nodesV most x) l else n
end
theorem sizes_step {l : List Rx} {i : Nat} (h : i < l.length) : Rx.sizes (l.drop i) = (l.getD i default).size + Rx.sizes (l.drop (i + 1)) := by
  rw [drop_cons h, Rx.sizes]
mutual
theorem nodesV_bd (most : Int) : ∀ r : Rx, 1 ≤ nodesV most r ∧ nodesV most r ≤ r.size
  | .mk _ _ l => by
    rw [nodesV, Rx.size]
    have := nodesG_bd most 1 (by omega) l
    omega
theorem nodesG_bd (most n : Int) (hn : 1 ≤ n) : ∀ l : List Rx, 1 ≤ nodesG most n l ∧ nodesG most n l ≤ n + Rx.sizes l
  | [] => by rw [nodesG, Rx.sizes]; omega
  | x :: l => by
    rw [nodesG, Rx.sizes]
    have h1 := nodesV_bd most x
    have h2 := nodesG_bd most (n + nodesV most x) (by omega) l
    split <;> omega
end

def okAt (l : List Int) (j : Nat) : Prop := 0 ≤ l.getD j default ∧ l.getD j default < 64 ∧ (0 < j → l.getD ((j : Int) - 1).toNat default < l.getD j default)
instance (l : List Int) (j : Nat) : Decidable (okAt l j) := by unfold okAt; exact inferInstance
def setOk (l : List Int) : Bool := decide (0 < l.length ∧ ∀ j, j < l.length → okAt l j)
theorem setOk_no {l : List Int} {k : Nat} (hk : k < l.length) (h : ¬ okAt l k) : false = setOk l := by
  symm; unfold setOk; rw [decide_eq_false_iff_not]; exact fun q => h (q.2 k hk)
theorem setOk_end {l : List Int} (h : ∀ j, j < l.length → okAt l j) : setOk l = decide (0 < l.length) := by
  unfold setOk; exact decide_eq_decide.2 ⟨fun q => q.1, fun q => ⟨q, h⟩⟩
theorem all_step {P : Nat → Prop} {k : Nat} (h : ∀ j, j < k → P j) (h2 : P k) : ∀ j, j < k + 1 → P j := fun j hj => by
  rcases Nat.lt_or_eq_of_le (Nat.lt_succ_iff.1 hj) with q | rfl
  · exact h j q
  · exact h2
def orderI (a b : Int) : Int := if a < b then -1 else if b < a then 1 else 0
def thn (c d : Int) : Int := if c = 0 then d else c
def orderL : List Int → List Int → Int
  | [], [] => 0
  | [], _ :: _ => -1
  | _ :: _, [] => 1
  | x :: xs, y :: ys => thn (orderI x y) (orderL xs ys)
mutual
def cmpR : Rx → Rx → Int
  | .mk k s l, b => thn (orderI k b.kind) (thn (orderL s b.syms) (cmpRs l b.kids))
def cmpRs : List Rx → List Rx → Int
  | [], [] => 0
  | [], _ :: _ => -1
  | _ :: _, [] => 1
  | x :: xs, y :: ys => thn (cmpR x y) (cmpRs xs ys)
end
theorem cmpR_eq (a b : Rx) : cmpR a b = thn (thn (orderI a.kind b.kind) (orderL a.syms b.syms)) (cmpRs a.kids b.kids) := by
  cases a with | mk k s l =>
  rw [cmpR]; show _ = thn (thn (orderI k _) (orderL s _)) (cmpRs l _)
  unfold thn; split <;> simp_all
theorem orderL_step {a b : List Int} {k : Nat} (ha : k < a.length) (hb : k < b.length) : orderL (a.drop k) (b.drop k) = thn (orderI (a.getD k default) (b.getD k default)) (orderL (a.drop (k + 1)) (b.drop (k + 1))) := by
  rw [drop_cons ha, drop_cons hb]; rfl
theorem orderL_end {a b : List Int} {k : Nat} (h : a.length ≤ k ∨ b.length ≤ k) (ha : k ≤ a.length) (hb : k ≤ b.length) : orderL (a.drop k) (b.drop k) = orderI a.length b.length := by
  unfold orderI
  rcases Nat.lt_or_ge k a.length with h1 | h1
  · have h2 : b.length ≤ k := by omega
    rw [drop_cons h1, List.drop_of_length_le h2, if_neg (by omega), if_pos (by omega)]; rfl
  · rw [List.drop_of_length_le h1]
    rcases Nat.lt_or_ge k b.length with h2 | h2
    · rw [drop_cons h2, if_pos (by omega)]; rfl
    · rw [List.drop_of_length_le h2, if_neg (by omega), if_neg (by omega)]; rfl
theorem cmpRs_step {a b : List Rx} {k : Nat} (ha : k < a.length) (hb : k < b.length) : cmpRs (a.drop k) (b.drop k) = thn (cmpR (a.getD k default) (b.getD k default)) (cmpRs (a.drop (k + 1)) (b.drop (k + 1))) := by
  rw [drop_cons ha, drop_cons hb, cmpRs]
theorem cmpRs_end {a b : List Rx} {k : Nat} (h : a.length ≤ k ∨ b.length ≤ k) (ha : k ≤ a.length) (hb : k ≤ b.length) : cmpRs (a.drop k) (b.drop k) = orderI a.length b.length := by
  unfold orderI
  rcases Nat.lt_or_ge k a.length with h1 | h1
  · have h2 : b.length ≤ k := by omega
    rw [drop_cons h1, List.drop_of_length_le h2, if_neg (by omega), if_pos (by omega), cmpRs]
  · rw [List.drop_of_length_le h1]
    rcases Nat.lt_or_ge k b.length with h2 | h2
    · rw [drop_cons h2, if_pos (by omega), cmpRs]
    · rw [List.drop_of_length_le h2, if_neg (by omega), if_neg (by omega), cmpRs]
theorem thn_zero {c d : Int} (h : c = 0) : thn c d = d := if_pos h
theorem thn_ne {c d : Int} (h : ¬ c = 0) : thn c d = c := if_neg h
theorem thn_end {T c d : Int} (h : T = thn c d) (hc : ¬ c = 0) : c = T := by rw [h, thn_ne hc]
theorem thn_ord {T c : Int} {a b : List Int} {i : Nat} (h : T = thn c (orderL (a.drop i) (b.drop i))) (hc : c = 0) (ha : i ≤ a.length) (hb : i ≤ b.length) (hi : a.length ≤ i ∨ b.length ≤ i) : orderI a.length b.length = T := by
  rw [h, thn_zero hc, orderL_end hi ha hb]
theorem thn_cmp {T c : Int} {a b : List Rx} {i : Nat} (h : T = thn c (cmpRs (a.drop i) (b.drop i))) (hc : c = 0) (ha : i ≤ a.length) (hb : i ≤ b.length) (hi : a.length ≤ i ∨ b.length ≤ i) : orderI a.length b.length = T := by
  rw [h, thn_zero hc, cmpRs_end hi ha hb]
theorem thn_ordS {T c : Int} {a b : List Int} {i : Nat} (h : T = thn c (orderL (a.drop i) (b.drop i))) (hc : c = 0) (ha : i < a.length) (hb : i < b.length) : T = thn (orderI (a.getD i default) (b.getD i default)) (orderL (a.drop (i + 1)) (b.drop (i + 1))) := by
  rw [h, thn_zero hc, orderL_step ha hb]
theorem thn_cmpS {T c : Int} {a b : List Rx} {i : Nat} (h : T = thn c (cmpRs (a.drop i) (b.drop i))) (hc : c = 0) (ha : i < a.length) (hb : i < b.length) : T = thn (cmpR (a.getD i default) (b.getD i default)) (cmpRs (a.drop (i + 1)) (b.drop (i + 1))) := by
  rw [h, thn_zero hc, cmpRs_step ha hb]

mutual
def validR : Rx → Bool
  | .mk k s l => if k < 0 ∨ 5 < k then false else if k = 2 then setOk s && decide (l.length = 0) else
      if 0 < s.length ∨ (k ≤ 1 ∧ 0 < l.length) ∨ (k = 5 ∧ l.length ≠ 1) then false else validRs l
def validRs : List Rx → Bool
  | [] => true
  | x :: l => validR x && validRs l
end
theorem validR_eq (r : Rx) : validR r = if r.kind < 0 ∨ 5 < r.kind then false else if r.kind = 2 then setOk r.syms && decide (r.kids.length = 0) else
      if 0 < r.syms.length ∨ (r.kind ≤ 1 ∧ 0 < r.kids.length) ∨ (r.kind = 5 ∧ r.kids.length ≠ 1) then false else validRs r.kids := by
  cases r with | mk k s l => rw [validR]; rfl
theorem validRs_all : ∀ l : List Rx, validRs l = l.all validR
  | [] => by rw [validRs]; rfl
  | x :: l => by rw [validRs, validRs_all l]; rfl
def idxF {α : Type} [Inhabited α] (p : α → Bool) (l : List α) : Int := if l.any p then (l.findIdx p : Nat) else -1
theorem any_no {α : Type} [Inhabited α] {p : α → Bool} {l : List α} (h : ∀ j, j < l.length → p (l.getD j default) = false) : l.any p = false := by
  rw [List.any_eq_false]
  intro x hx
  obtain ⟨j, hj, rfl⟩ := List.getElem_of_mem hx
  have := h j hj
  rw [List.getD_eq_getElem?_getD, List.getElem?_eq_getElem hj] at this
  exact fun q => by rw [Option.getD_some] at this; rw [q] at this; exact absurd this (by decide)
theorem idxF_none {α : Type} [Inhabited α] {p : α → Bool} {l : List α} (h : ∀ j, j < l.length → p (l.getD j default) = false) : -1 = idxF p l := by
  unfold idxF; rw [any_no h]; rfl
theorem idxF_hit {α : Type} [Inhabited α] {p : α → Bool} {l : List α} {k : Nat} (hk : k < l.length) (h : ∀ j, j < k → p (l.getD j default) = false) (hp : p (l.getD k default) = true) : (k : Int) = idxF p l := by
  have hg : l.getD k default = l[k] := by rw [List.getD_eq_getElem?_getD, List.getElem?_eq_getElem hk]; rfl
  rw [hg] at hp
  unfold idxF
  rw [if_pos (List.any_eq_true.2 ⟨_, List.getElem_mem hk, hp⟩)]
  have h1 : l.findIdx p = k := by
    refine (List.findIdx_eq hk).2 ⟨hp, fun j hj => ?_⟩
    have := h j hj
    rwa [List.getD_eq_getElem?_getD, List.getElem?_eq_getElem (by omega)] at this
  rw [h1]
theorem idxF_ge {α : Type} [Inhabited α] (p : α → Bool) (l : List α) : decide (0 ≤ idxF p l) = l.any p := by
  unfold idxF; split
  · rename_i h; rw [h]; exact decide_eq_true (by omega)
  · rename_i h; rw [Bool.not_eq_true] at h; rw [h]; rfl

mutual
def accR : Rx → Bool
  | .mk k _ l => if k = 3 then accAll l else if k = 4 then accAny l else decide (k = 1 ∨ k = 5)
def accAll : List Rx → Bool
  | [] => true
  | x :: l => accR x && accAll l
def accAny : List Rx → Bool
  | [] => false
  | x :: l => accR x || accAny l
end
theorem accAll_eq : ∀ l : List Rx, accAll l = l.all accR
  | [] => by rw [accAll]; rfl
  | x :: l => by rw [accAll, accAll_eq l]; rfl
theorem accAny_eq : ∀ l : List Rx, accAny l = l.any accR
  | [] => by rw [accAny]; rfl
  | x :: l => by rw [accAny, accAny_eq l]; rfl
theorem accR_eq (r : Rx) : accR r = if r.kind = 3 then r.kids.all accR else if r.kind = 4 then r.kids.any accR else decide (r.kind = 1 ∨ r.kind = 5) := by
  cases r with | mk k s l => rw [accR, accAll_eq, accAny_eq]; rfl
theorem any_yes {p : Rx → Bool} {l : List Rx} {i : Nat} (h : i < l.length) (hv : p (l.getD i default) = true) : l.any p = true :=
  List.any_eq_true.2 ⟨_, kid_mem h, hv⟩

theorem all_not_any {p : Rx → Bool} (l : List Rx) : l.all p = !(l.any fun x => !p x) := by
  induction l with
  | nil => rfl
  | cons x l ih => rw [List.all_cons, List.any_cons, ih]; cases p x <;> cases l.any _ <;> rfl
theorem validR_01 {r : Rx} (h : r.kind = 0 ∨ r.kind = 1) : validR r = (decide (r.syms.length = 0) && decide (r.kids.length = 0)) := by
  rw [validR_eq, if_neg (by omega), if_neg (by omega)]
  by_cases h1 : r.syms.length = 0 <;> by_cases h2 : r.kids.length = 0
  · rw [if_neg (by omega), decide_eq_true h1, decide_eq_true h2, validRs_all, List.length_eq_zero_iff.1 h2]; rfl
  · rw [if_pos (by omega), decide_eq_false h2, Bool.and_false]
  · rw [if_pos (by omega), decide_eq_false h1, Bool.false_and]
  · rw [if_pos (by omega), decide_eq_false h1, Bool.false_and]
theorem validR_2 {r : Rx} (h : r.kind = 2) : validR r = (decide (r.kids.length = 0) && setOk r.syms) := by
  rw [validR_eq, if_neg (by omega), if_pos h, Bool.and_comm]
theorem validR_5 {r : Rx} (h : r.kind = 5) : validR r = (decide (r.syms.length = 0) && (decide (r.kids.length = 1) && validR (r.kids.getD 0 default))) := by
  rw [validR_eq, if_neg (by omega), if_neg (by omega)]
  by_cases h1 : r.syms.length = 0 <;> by_cases h2 : r.kids.length = 1
  · rw [if_neg (by omega), decide_eq_true h1, decide_eq_true h2, validRs_all]
    obtain ⟨x, hx⟩ := List.length_eq_one_iff.1 h2
    rw [hx]; simp
  · rw [if_pos (by omega), decide_eq_false h2, Bool.false_and, Bool.and_false]
  · rw [if_pos (by omega), decide_eq_false h1, Bool.false_and]
  · rw [if_pos (by omega), decide_eq_false h1, Bool.false_and]
theorem validR_34 {r : Rx} (h : r.kind = 3 ∨ r.kind = 4) : validR r = (decide (r.syms.length = 0) && !(r.kids.any fun x => !validR x)) := by
  rw [validR_eq, if_neg (by omega), if_neg (by omega)]
  by_cases h1 : r.syms.length = 0
  · rw [if_neg (by omega), decide_eq_true h1, validRs_all, all_not_any, Bool.true_and]
  · rw [if_pos (by omega), decide_eq_false h1, Bool.false_and]
theorem validR_no {r : Rx} (h : r.kind < 0 ∨ 5 < r.kind) : validR r = false := by rw [validR_eq, if_pos h]
end Go.Wb

