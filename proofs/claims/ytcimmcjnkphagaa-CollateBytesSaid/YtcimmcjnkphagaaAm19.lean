/-
  From a row's arguments to abstract data, and from a contract to the row's own condition.
-/
import Derived.Test.YtcimmcjnkphagaaAm18
import Derived.ProofKit
import Derived.OpenShut
import Derived.Carry
import Derived.Handed
import Derived.Deep.Slices
import Derived.WideKeyArgs
namespace Go.Am
open Go.RowKit Go.ChangeShapes Go.WideShapes Go.Deep
set_option linter.unusedVariables false
section
variable {H : Type} {enc : TypeId × Value → H} {P : Program} {w : World} {base : Nat} {spare : Nat → Bool} {held : Bool}
theorem choose_list {α : Type} {p : Nat → α → Prop} (n : Nat) (h : ∀ i, i < n → ∃ a, p i a) : ∃ l : List α, l.length = n ∧ ∀ i a, l[i]? = some a → p i a := by
  induction n with
  | zero => exact ⟨[], rfl, fun i a h => by simp at h⟩
  | succ n ih =>
    obtain ⟨l, hl, hp⟩ := ih fun i hi => h i (by omega)
    obtain ⟨a, ha⟩ := h n (by omega)
    refine ⟨l ++ [a], by simp [hl], fun i b hb => ?_⟩
    rcases Nat.lt_or_ge i n with hi | hi
    · rw [List.getElem?_append_left (by omega)] at hb
      exact hp i b hb
    · rw [List.getElem?_append_right (by omega)] at hb
      have : i - l.length = 0 := by
        have := (List.getElem?_eq_some_iff.1 hb).1
        simp at this; omega
      rw [this] at hb
      simp only [List.getElem?_cons_zero, Option.some.injEq] at hb
      subst hb
      rw [show i = n by omega]; exact ha
/-- A slice whose elements are one cell each. -/
theorem rep_slice {α : Type} {ad : α → AV} {ok : α → Prop} {t e : TypeId} (ht : P.underlying t = some (.slice e)) (hc : P.cellsOf e = 1) (hleaf : ∀ a, AV.leaf (ad a) = true ∧ AV.cells (ad a) = [ad a])
    (hel : ∀ (n : Nat) (v : Value) x, DataW.trod enc P w base spare held n e [v] = some x → ∃ a, ok a ∧ Rep w (fun _ => False) v (ad a)) {n : Nat} {v : Value} {x : DataW H × List MemPlace} (h : DataW.trod enc P w base spare held n t [v] = some x) :
    ∃ l : List α, (∀ a ∈ l, ok a) ∧ l.length ≤ 9223372036854775807 ∧ Rep w (fun _ => False) v (.sl (l.map ad)) := by
  rcases open_slice1 ht hc h with ⟨h1, _⟩ | ⟨a, len, cap, m, n', V, D, Pl, h1, hb, hl, hm, hmm, hx, hall⟩
  · simp only [List.cons.injEq, and_true] at h1
    subst h1
    exact ⟨[], fun a ha => (by cases ha), (by simp), .sl none 0 0 [] 1 (fun _ => undef) rfl (Nat.le_refl _) (fun x hx => by cases hx) (fun h => absurd h (by omega)) (fun j d hd => by simp [flat] at hd) (fun j d hd => by simp [flat] at hd)⟩
  · simp only [List.cons.injEq, and_true] at h1
    subst h1
    have hlm : len ≤ m := by rw [hmm]; split <;> omega
    obtain ⟨l, hll, hlp⟩ := choose_list (p := fun i a => ok a ∧ Rep w (fun _ => False) (V i) (ad a)) len fun i hi => hel n' (V i) _ (hall i (by omega)).2
    have hfl : flat (l.map ad) = l.map ad := by
      clear hll hlp
      induction l with
      | nil => rfl
      | cons a r ih => simp only [flat, List.map_cons, List.flatMap_cons] at ih ⊢; rw [ih, (hleaf a).2]; rfl
    refine ⟨l, fun a ha => ?_, by rw [hll]; unfold maxLen at hm; omega, ?_⟩
    · obtain ⟨i, hi, rfl⟩ := List.getElem_of_mem ha
      exact (hlp i _ (List.getElem?_eq_getElem hi)).1
    · refine .sl (some a) len cap _ 1 V (by simpa using hll) hl (fun x hx => ?_) (fun h0 => ?_) (fun j d hd => ?_) (fun j d hd => ?_)
      · obtain ⟨z, _, rfl⟩ := List.mem_map.1 hx
        rw [(hleaf z).2]; rfl
      · have h3 := (hall 0 (by omega)).1
        have h4 : w.cell? a = some (V 0) := by simpa [Addr.add] using h3
        obtain ⟨b, o, sp⟩ := a
        have hsp : sp = none := World.cell?_spot h4
        subst hsp
        refine ⟨b, o, rfl, fun hf => hf, World.block_lt_of_cell? w ⟨b, o, none⟩ h4, fun j hj => ?_⟩
        have := (hall j (by omega)).1
        rwa [Addr.add_lit] at this
      · rw [hfl, List.getElem?_map, Option.map_eq_some_iff] at hd
        obtain ⟨z, _, rfl⟩ := hd
        exact (hleaf z).1
      · rw [hfl, List.getElem?_map, Option.map_eq_some_iff] at hd
        obtain ⟨z, hz, rfl⟩ := hd
        exact (hlp j z hz).2
theorem trod_i64 {e : TypeId} (he : P.underlying e = some (.int .i64)) (n : Nat) (v : Value) (x : DataW H × List MemPlace) (h : DataW.trod enc P w base spare held n e [v] = some x) :
    ∃ z : Int, (-9223372036854775808 ≤ z ∧ z ≤ 9223372036854775807) ∧ Rep w (fun _ => False) v (int z) := by
  obtain ⟨z, h1, hx, hw⟩ := DataW.trod_int he h
  simp only [List.cons.injEq, and_true] at h1
  subst h1
  exact ⟨z, bounds_i64 hw, .sc _ rfl⟩
theorem trod_str {e : TypeId} (he : P.underlying e = some .string) (n : Nat) (v : Value) (x : DataW H × List MemPlace) (h : DataW.trod enc P w base spare held n e [v] = some x) :
    ∃ z : List UInt8, z.length ≤ 9223372036854775807 ∧ Rep w (fun _ => False) v (sbytes z) := by
  obtain ⟨s, h1, hx, hw⟩ := DataW.trod_string he h
  simp only [List.cons.injEq, and_true] at h1
  subst h1
  refine ⟨s.data.toList, ?_, ?_⟩
  · rw [Array.length_toList]; exact hw
  · exact .sc _ rfl
theorem trod_bool' {e : TypeId} (he : P.underlying e = some .bool) (n : Nat) (v : Value) (x : DataW H × List MemPlace) (h : DataW.trod enc P w base spare held n e [v] = some x) :
    ∃ z : Bool, True ∧ Rep w (fun _ => False) v (bool z) := by
  obtain ⟨b, h1, hx⟩ := DataW.trod_bool he h
  simp only [List.cons.injEq, and_true] at h1
  subst h1
  exact ⟨b, trivial, .sc _ rfl⟩
theorem one_slice {t e : TypeId} {r : Reach} {b0 : Nat} {v : Value} (ht : P.underlying t = some (.slice e)) (hval : Value.okWide P w r b0 t v) : v.cells.toList = [v] := by
  obtain ⟨a, len, cap, rfl⟩ := okWide_slice ht hval; rfl
theorem one_int {t : TypeId} {k : IntKind} {r : Reach} {b0 : Nat} {v : Value} (ht : P.underlying t = some (.int k)) (hval : Value.okWide P w r b0 t v) : v.cells.toList = [v] := by
  obtain ⟨a, rfl⟩ := okWide_int ht hval; rfl
theorem one_str {t : TypeId} {r : Reach} {b0 : Nat} {v : Value} (ht : P.underlying t = some .string) (hval : Value.okWide P w r b0 t v) : v.cells.toList = [v] := by
  obtain ⟨a, rfl⟩ := okWide_string ht hval; rfl
theorem one_bool {t : TypeId} {r : Reach} {b0 : Nat} {v : Value} (ht : P.underlying t = some .bool) (hval : Value.okWide P w r b0 t v) : v.cells.toList = [v] := by
  obtain ⟨a, rfl⟩ := okWide_bool ht hval; rfl
theorem open_intsA {t e : TypeId} {r : Reach} {b0 : Nat} {v : Value} {d : DataW H} {ps : List MemPlace} (ht : P.underlying t = some (.slice e)) (he : P.underlying e = some (.int .i64)) (hc : szOf P e = some 1) (hval : Value.okWide P w r b0 t v) (hd : DataW.Trod enc P w base spare held t v d ps) :
    ∃ l : List Int, (∀ a ∈ l, -9223372036854775808 ≤ a ∧ a ≤ 9223372036854775807) ∧ l.length ≤ 9223372036854775807 ∧ Rep w (fun _ => False) v (.sl (l.map int)) := by
  obtain ⟨n, hn⟩ := hd
  rw [one_slice ht hval] at hn
  exact rep_slice ht (cellsOf_of hc) (fun a => ⟨rfl, rfl⟩) (trod_i64 he) hn
theorem open_intssA {t e q : TypeId} {r : Reach} {b0 : Nat} {v : Value} {d : DataW H} {ps : List MemPlace} (ht : P.underlying t = some (.slice e)) (he : P.underlying e = some (.slice q)) (hq : P.underlying q = some (.int .i64)) (hc : szOf P e = some 1) (hcq : szOf P q = some 1) (hval : Value.okWide P w r b0 t v) (hd : DataW.Trod enc P w base spare held t v d ps) :
    ∃ l : List (List Int), (∀ y ∈ l, (∀ a ∈ y, -9223372036854775808 ≤ a ∧ a ≤ 9223372036854775807) ∧ y.length ≤ 9223372036854775807) ∧ l.length ≤ 9223372036854775807 ∧ Rep w (fun _ => False) v (.sl (l.map fun y => .sl (y.map int))) := by
  obtain ⟨n, hn⟩ := hd
  rw [one_slice ht hval] at hn
  exact rep_slice (ok := fun y : List Int => (∀ a ∈ y, -9223372036854775808 ≤ a ∧ a ≤ 9223372036854775807) ∧ y.length ≤ 9223372036854775807) ht (cellsOf_of hc) (fun a => ⟨rfl, rfl⟩) (fun n v x h => by
    obtain ⟨l, h1, h2, h3⟩ := rep_slice he (cellsOf_of hcq) (fun a => ⟨rfl, rfl⟩) (trod_i64 hq) h
    exact ⟨l, ⟨h1, h2⟩, h3⟩) hn
theorem open_strsA {t e : TypeId} {r : Reach} {b0 : Nat} {v : Value} {d : DataW H} {ps : List MemPlace} (ht : P.underlying t = some (.slice e)) (he : P.underlying e = some .string) (hc : szOf P e = some 1) (hval : Value.okWide P w r b0 t v) (hd : DataW.Trod enc P w base spare held t v d ps) :
    ∃ l : List (List UInt8), (∀ a ∈ l, a.length ≤ 9223372036854775807) ∧ l.length ≤ 9223372036854775807 ∧ Rep w (fun _ => False) v (.sl (l.map sbytes)) := by
  obtain ⟨n, hn⟩ := hd
  rw [one_slice ht hval] at hn
  exact rep_slice ht (cellsOf_of hc) (fun a => ⟨rfl, rfl⟩) (trod_str he) hn
theorem open_intA {t : TypeId} {r : Reach} {b0 : Nat} {v : Value} {d : DataW H} {ps : List MemPlace} (ht : P.underlying t = some (.int .i64)) (hval : Value.okWide P w r b0 t v) (hd : DataW.Trod enc P w base spare held t v d ps) :
    ∃ z : Int, (-9223372036854775808 ≤ z ∧ z ≤ 9223372036854775807) ∧ Rep w (fun _ => False) v (int z) := by
  obtain ⟨n, hn⟩ := hd
  rw [one_int ht hval] at hn
  exact trod_i64 ht _ _ _ hn
theorem open_strA {t : TypeId} {r : Reach} {b0 : Nat} {v : Value} {d : DataW H} {ps : List MemPlace} (ht : P.underlying t = some .string) (hval : Value.okWide P w r b0 t v) (hd : DataW.Trod enc P w base spare held t v d ps) :
    ∃ z : List UInt8, z.length ≤ 9223372036854775807 ∧ Rep w (fun _ => False) v (sbytes z) := by
  obtain ⟨n, hn⟩ := hd
  rw [one_str ht hval] at hn
  exact trod_str ht _ _ _ hn
theorem open_boolA {t : TypeId} {r : Reach} {b0 : Nat} {v : Value} {d : DataW H} {ps : List MemPlace} (ht : P.underlying t = some .bool) (hval : Value.okWide P w r b0 t v) (hd : DataW.Trod enc P w base spare held t v d ps) :
    ∃ z : Bool, True ∧ Rep w (fun _ => False) v (bool z) := by
  obtain ⟨n, hn⟩ := hd
  rw [one_bool ht hval] at hn
  exact trod_bool' ht _ _ _ hn
theorem trodAll_stays (hl : laidOutB P = true) {W W' : World} {sp' : Nat → Bool} : ∀ {ts : List TypeId} {vs : List Value} {ds : List (DataW H)} {ps : List MemPlace}, (∀ t ∈ ts, P.readableRec t = true ∧ t < P.types.size) →
    DataW.TrodAll enc P W base (fun _ => true) true ts vs ds ps → (∀ p ∈ ps, W.sameAt W' p) → (∀ p ∈ ps, sp' p.block = true) → DataW.TrodAll enc P W' base sp' true ts vs ds ps
  | [], [], [], _, _, h, _, _ => h
  | t :: ts, v :: vs, d :: ds, _, ht, ⟨p, q, h1, h2, e⟩, hs, hp => ⟨p, q, WideElems.Trod_stays hl (ht t List.mem_cons_self).1 (ht t List.mem_cons_self).2 h1 (fun x hx => hs x (by rw [e]; exact List.mem_append_left _ hx)) (fun x hx => hp x (by rw [e]; exact List.mem_append_left _ hx)),
      trodAll_stays hl (fun t ht' => ht t (List.mem_cons_of_mem _ ht')) h2 (fun x hx => hs x (by rw [e]; exact List.mem_append_right _ hx)) (fun x hx => hp x (by rw [e]; exact List.mem_append_right _ hx)), e⟩
/-- A law's contract gives the row's condition. -/
theorem law_post {f : Func} {fid : FuncId} {s : ChangeSpec} {W : World} {args : Array Value} {ds gs : List (DataW H)} {before : List MemPlace} {tb : TypeId} (hl : laidOutB P = true) (hrec : (f.params.toList.all fun t => P.readableRec t && decide (t < P.types.size)) = true) (hres : f.resultTypes = #[tb]) (htb : P.underlying tb = some .bool)
    (hvars : s.vars = []) (hfn : s.fn H (ds ++ []) = { results := [.lit (.bool true)], args := ds, vars := [] }) (hW : DataW.Whole enc P f.params.toList s.vars false W args.toList ds gs before)
    (hcall : Calls P fid args W fun e W' => ∃ v, e = .returned v ∧ Below W.heap.size W W' ∧ RVok P W' (fun b => b < W.heap.size) W.heap.size v (.p (bool true))) :
    Calls P fid args W fun e W' => ∃ v, e = .returned v ∧ s.post enc P f false true false false W args v W' := by
  have hW' := hW
  obtain ⟨p, q, hA, hV, hps, hfz, hnd⟩ := hW
  rw [hvars] at hV
  obtain ⟨hg, hq⟩ := trodVars_none hV
  subst hg hq
  refine hcall.mono fun e W' ⟨v, he, hb, hrv⟩ => ⟨v, he, ?_⟩
  have hv : v = .bool true := by
    have h : Rep W' _ v (bool true) := hrv
    generalize hz : bool true = z at h
    cases h <;> simp_all
  subst hv
  have hlt : ∀ x ∈ p, x.block < W.heap.size := fun x hx => hA.lt x hx
  have htrue : ∀ (b : Nat) (sp : Nat → Bool) (hd : Bool), DataW.TrodAll enc P W' b sp hd f.resultTypes.toList ((Value.bool true).resultList f.resultTypes.size) (s.fn H (ds ++ [])).results [] := fun b sp hd => by
    rw [hfn, hres]; exact trodAll_cons_mk (shut_bool htb _) trodAll_mk0
  have hargs : ∀ sp : Nat → Bool, (∀ x ∈ before, sp x.block = true) → DataW.TrodAll enc P W' 0 sp true f.params.toList args.toList (s.fn H (ds ++ [])).args p := fun sp hsp => by
    rw [hfn]
    refine trodAll_stays hl (fun t ht => ?_) hA (fun x hx => hb.toBelow.same (hlt x hx)) (fun x hx => hsp x (by rw [hps]; exact List.mem_append_left _ hx))
    have := List.all_eq_true.1 hrec t ht
    simpa using this
  have hold : ∀ x ∈ before, (fun b => decide (b < W.heap.size)) x.block = true := fun x hx => by simpa using hW'.lt x hx
  have hvr : ∀ sp : Nat → Bool, DataW.TrodVars enc P W' sp s.vars (s.fn H (ds ++ [])).vars [] := fun sp => by rw [hfn, hvars]; rfl
  refine ⟨ds, [], before, [], p, [], hW', htrue _ _ _, hargs _ hold, hvr _, World.keptBut_mono (fun x hx => hx) (hb.toBelow.frame _), fun _ => ?_⟩
  refine ⟨ok_one (t := tb) hres rfl (okWide_bool_mk htb _), _, _, ([] ++ p) ++ [], ⟨[] ++ p, [], trodAll_append (hargs _ (fun _ _ => rfl)) (htrue _ _ _), hvr _, rfl, ?_, fun h => by cases h⟩, ?_⟩
  · intro b off hp
    have hp' : MemPlace.cell b off ∈ before := by rw [hps]; simpa using hp
    exact (hb.toBelow.frozen (p := ⟨b, off, none⟩) (hW'.lt _ hp')).trans (hfz b off hp')
  · intro x hx _
    rw [hps]; simpa using hx
end
/-- Values that read as data, one by one. -/
def Reps (w : World) (M : Nat → Prop) : List Value → List AV → Prop
  | [], [] => True
  | v :: vs, d :: ds => Rep w M v d ∧ Reps w M vs ds
  | _, _ => False
theorem Reps.get {w : World} {M : Nat → Prop} : ∀ {vs : List Value} {ds : List AV}, Reps w M vs ds → vs.length = ds.length ∧ ∀ (j : Nat) d, ds[j]? = some d → Rep w M (vs.getD j undef) d
  | [], [], _ => ⟨rfl, fun j d hd => by simp at hd⟩
  | v :: vs, d :: ds, h => by
    obtain ⟨h1, h2⟩ := h
    obtain ⟨h3, h4⟩ := Reps.get h2
    refine ⟨by simp [h3], fun j e he => ?_⟩
    cases j with
    | zero => simp only [List.getElem?_cons_zero, Option.some.injEq] at he; subst he; exact h1
    | succ j => exact h4 j e (by simpa using he)
theorem CallF.use {P : Program} {f : FuncId} {ds : List AV} {r : RV} (h : CallF P f ds r) {w : World} {vs : List Value} (hr : Reps w (fun _ => False) vs ds) :
    Calls P f vs.toArray w fun e w' => ∃ v, e = .returned v ∧ Below w.heap.size w w' ∧ RVok P w' (fun b => b < w.heap.size) w.heap.size v r :=
  h.2 w vs hr.get.1 hr.get.2
end Go.Am
