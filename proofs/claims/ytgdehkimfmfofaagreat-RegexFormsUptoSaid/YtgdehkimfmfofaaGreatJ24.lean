/-
  Plain functions: how much the lists of the cover hold, from tables.
-/
import Derived.Test.YtgdehkimfmfofaaGreatJ13
import Derived.Test.YtgdehkimfmfofaaGreatJ23
import Derived.Test.YtgdehkimfmfofaaGreatJ18
set_option linter.unusedVariables false
set_option linter.unusedSimpArgs false
namespace Go.Am
open Go.RowKit
set_option linter.unusedVariables false
section
variable {P : Program} {w0 : Fr} {M0 : Nat → Prop} {o : Oper} {ρ : Operand → Option SV} {ob : List (Nat × Ob)} {x y z : Operand} {T e : TypeId} {k id off : Nat} {c : Cls} {cs : List SV}
theorem pure_slice_hm {α : Type} {f : α → AV} {l : List α} {q' : IntKind} {j : Int} (ho : o.op = .slice T x none (some z) none) (hT : P.underlying T = some (.slice e)) (hk : szOf P e = some k) (hx : viewAt ρ ob x = some (c, .sl (l.map f))) (hz : scal ρ z = some (.int q' j))
    (h : 0 ≤ j ∧ j ≤ l.length) (hxk : ∀ z, (AV.cells (f z)).length = k) : Pure P w0 M0 o ρ ob (.v c (.sl ((l.take j.toNat).map f))) := by
  have := pure_slice_h (P := P) (w0 := w0) (M0 := M0) ho hT hk hx hz (by simpa using h) (map_len hxk)
  rwa [← List.map_take] at this
theorem pure_index_box {q : IntKind} {i : Int} {n : Nat} {e' : TypeId} (ho : o.op = .indexAddr T x y) (hT : P.underlying T = some (.array n e)) (hk : szOf P e = some 1) (hx : ρ x = some (.pbox id off)) (hl : ob.lookup id = some (.box e' cs)) (hy : scal ρ y = some (.int q i)) (h : 0 ≤ i ∧ i < n) :
    Pure P w0 M0 o ρ ob (.pbox id (off + i.toNat)) :=
  pure_value fun E w ev hw hh => by
    have hr := hh x _ hx e' cs hl
    have hi := scal_ok hh hy
    have hel : P.elem T = e := by simp [Program.elem, hT]
    have hal : P.arrayLen T = n := by simp [Program.arrayLen, hT]
    have hin : 0 ≤ i ∧ i < (n : Int) := h
    refine ⟨_, w, by simp [execOp, ho, hr, hi, run_indexAt_array, hel, hal, hT, hin, run_size hk, Addr.add_lit]; rfl, .refl _ _, fun e2 cs2 h' => ?_⟩
    rfl
theorem lookup_keeps (p : SV → Bool) : ∀ (X : List (Nat × SV)) (t : Nat) (d : SV), Nodup X = true → X.lookup t = some d → p d = true → (X.filter fun q => p q.2).lookup t = some d
  | [], t, d, _, h, _ => by simp at h
  | (u, e) :: r, t, d, hn, h, hs => by
    rw [lookup_cons'] at h
    simp only [Nodup, Bool.and_eq_true, Bool.not_eq_true'] at hn
    rw [List.filter_cons]
    by_cases q : t = u
    · rw [if_pos q] at h
      simp only [Option.some.injEq] at h
      subst h
      rw [if_pos hs, lookup_cons', if_pos q]
    · rw [if_neg q] at h
      have ih := lookup_keeps p r t d hn.2 h hs
      split
      · rw [lookup_cons', if_neg q]; exact ih
      · exact ih
theorem all_stays {G : List (Nat × SV)} {t : Nat} (h : (G.all fun p => p.2.stays true t || Nat.beq p.1 t) = true) {u : Nat} {d : SV} (hl : G.lookup u = some d) (hne : u ≠ t) : d.stays true t = true := by
  have := List.all_eq_true.1 h _ (lookup_mem hl)
  rw [Bool.or_eq_true] at this
  rcases this with h1 | h1
  · exact h1
  · exact absurd (Nat.eq_of_beq_eq_true h1) hne
theorem step_apn {α : Type} {f : α → AV} {l : List α} {X : List (Nat × SV)} {n t u v b : Nat} (ho : o.op = .call { callee := .builtin .append, args := #[.tmp u, .tmp v], argTypes := #[T, T] }) (hd : o.dst = some t) (hn : Nat.blt t n = true) (hnd : Nodup X = true)
    (hT : P.underlying T = some (.slice e)) (hel : elOk P e k b = true) (hu : X.lookup u = some (.v c (.sc (.slice none 0 0)))) (hv : X.lookup v = some (.v .pl (.sl (l.map f)))) (hf : ∀ z, (AV.cells (f z)).length = k)
    (hb : (l.map f).length * b ≤ 140737488355328) (hm : (l.map f).length ≤ 4611686018427387904) (hs : ∀ t' d, X.lookup t' = some d → t' ≠ t → d.stays true t = true) (hM0 : ∀ b, M0 b → b < w0.w.heap.size) :
    ∃ s', Step P w0 M0 o ⟨n, X, []⟩ s' ∧ Imp P w0 M0 s' ⟨n, ins t (.own t) X, [(t, .arr e (l.map f))]⟩ := by
  have h1 : scal (⟨n, X, []⟩ : St).ev (.tmp u) = some (.slice none 0 0) := by simp only [scal, St.ev, hu]; rfl
  have h2 : viewAt (⟨n, X, []⟩ : St).ev (⟨n, X, []⟩ : St).o (.tmp v) = some (.pl, .sl (l.map f)) := by simp only [viewAt, St.ev, hv]; rfl
  refine ⟨_, step_append_nil (s := ⟨n, X, []⟩) (ys := l.map f) ho hd hn hnd hT hel h1 hM0 (src_plm h2 hf) hb hm, ?_⟩
  refine imp_slots rfl rfl fun t' d ht' => ?_
  rw [lookup_ins] at ht'
  show (ins t (SV.own t) _).lookup t' = some d
  rw [lookup_ins]
  by_cases q : t' = t
  · rw [if_pos q] at ht' ⊢; exact ht'
  · rw [if_neg q] at ht' ⊢
    exact lookup_keeps (fun e => e.stays true t) X t' d hnd ht' (hs t' d ht' q)
end
end Go.Am

namespace Go.Wb
set_option linter.unusedVariables false
set_option linter.unusedSimpArgs false
open Go.Am
theorem sizes_rput (l : List Rx) (x : Rx) : Rx.sizes (rput l x) ≤ Rx.sizes l + x.size := by
  unfold rput
  split
  · omega
  · have := sizes_take_drop l (lbR x l)
    rw [sizes_append, sizes_append, Rx.sizes, Rx.sizes]; omega
theorem sizes_rOut : ∀ (L o : List Rx), Rx.sizes (L.foldl rOut1 o) ≤ Rx.sizes o + Rx.sizes L
  | [], o => by rw [List.foldl_nil, Rx.sizes]; omega
  | x :: L, o => by
    have h1 := sizes_rOut L (rOut1 o x)
    have h2 : Rx.sizes (rOut1 o x) ≤ Rx.sizes o + x.size := by
      have := sizes_rput o x
      unfold rOut1; split
      · omega
      · split <;> omega
    rw [List.foldl_cons, Rx.sizes]; omega
theorem sizes_out (L : List Rx) : Rx.sizes (rOut L) ≤ Rx.sizes L := by have := sizes_rOut L []; rw [show Rx.sizes [] = 0 from rfl, Nat.zero_add] at this; exact this
theorem rSyms_len (L : List Rx) (n : Nat) : (rSyms L n).length ≤ n := by
  unfold rSyms
  rw [List.length_map]
  exact Nat.le_trans (List.length_filter_le _ _) (by rw [List.length_range]; exact Nat.le_refl _)
theorem sizes_alt2 (L : List Rx) : Rx.sizes (rAlt2 L) ≤ Rx.sizes L + 65 := by
  have h1 := sizes_out L
  have h2 := sizes_rput (rOut L) (.mk 2 (rSyms L 64) [])
  have h3 := rSyms_len L 64
  rw [size_mk, Rx.sizes] at h2
  unfold rAlt2; split <;> omega
theorem sizes_alt3 (L : List Rx) : Rx.sizes (rAlt3 L) ≤ Rx.sizes L + 66 := by
  have h1 := sizes_alt2 L
  have h2 := sizes_rput (rAlt2 L) emptyRx
  rw [show (emptyRx).size = 1 from rfl] at h2
  unfold rAlt3; split <;> omega
section
variable {L : List Rx} {j k v : Nat}
theorem rOut_1 (h : j < L.length) (hk : (L.getD j default).kind = 1) : rOut (L.take (j + 1)) = rOut (L.take j) := by unfold rOut; rw [foldl_snoc h]; exact if_pos hk
theorem rOut_x (h : j < L.length) (hk : 2 < (L.getD j default).kind) : rOut (L.take (j + 1)) = rput (rOut (L.take j)) (L.getD j default) := by
  unfold rOut; rw [foldl_snoc h]; unfold rOut1; rw [if_neg (by omega), if_pos hk]
theorem rOut_0 (h : j < L.length) (hk : ¬ (L.getD j default).kind = 1) (h2 : ¬ 2 < (L.getD j default).kind) : rOut (L.take (j + 1)) = rOut (L.take j) := by
  unfold rOut; rw [foldl_snoc h]; unfold rOut1; rw [if_neg hk, if_neg h2]
theorem rOth_1 (h : j < L.length) (hk : (L.getD j default).kind = 1) : rOth (L.take (j + 1)) = rOth (L.take j) := by unfold rOth; rw [foldl_snoc h]; exact if_pos hk
theorem rOth_t (h : j < L.length) (hk : 2 < (L.getD j default).kind) (ho : rOth (L.take j) = true) : rOth (L.take (j + 1)) = true := by
  unfold rOth at ho ⊢; rw [foldl_snoc h, ho]; unfold rOth1; rw [if_neg (by omega), if_pos hk]; rfl
theorem rOth_f (h : j < L.length) (hk : 2 < (L.getD j default).kind) (ho : rOth (L.take j) = false) : rOth (L.take (j + 1)) = accR (L.getD j default) := by
  unfold rOth at ho ⊢; rw [foldl_snoc h, ho]; unfold rOth1; rw [if_neg (by omega), if_pos hk]; rfl
theorem rOth_0 (h : j < L.length) (hk : ¬ (L.getD j default).kind = 1) (h2 : ¬ 2 < (L.getD j default).kind) : rOth (L.take (j + 1)) = rOth (L.take j) := by
  unfold rOth; rw [foldl_snoc h]; unfold rOth1; rw [if_neg hk, if_neg h2]
theorem rEmp_1 (h : j < L.length) (hk : (L.getD j default).kind = 1) : rEmp (L.take (j + 1)) = true := by
  unfold rEmp; rw [take_succ' h, List.any_append, List.any_cons, decide_eq_true hk, Bool.true_or, Bool.or_true]
theorem rEmp_0 (h : j < L.length) (hk : ¬ (L.getD j default).kind = 1) : rEmp (L.take (j + 1)) = rEmp (L.take j) := by
  unfold rEmp; rw [take_succ' h, List.any_append, List.any_cons, decide_eq_false hk, List.any_nil, Bool.or_false, Bool.or_false]
def rIsAt (L : List Rx) (j k v : Nat) : Bool := rIs (L.take j) v || ((L.getD j default).syms.take k).any fun z => decide (z = (v : Int))
theorem rIsAt_0 : rIsAt L j 0 = rIs (L.take j) := by funext v; unfold rIsAt; simp
theorem rIs_next (h : j < L.length) (hk : (L.getD j default).syms.length ≤ k) : rIs (L.take (j + 1)) = rIsAt L j k := by
  funext v; unfold rIsAt; rw [List.take_of_length_le hk]
  show List.any _ _ = (List.any _ _ || _)
  rw [take_succ' h, List.any_append, List.any_cons, List.any_nil, Bool.or_false]
theorem rIsAt_succ (h : k < (L.getD j default).syms.length) (v : Nat) : rIsAt L j (k + 1) v = (rIsAt L j k v || decide ((L.getD j default).syms.getD k default = (v : Int))) := by
  unfold rIsAt; rw [take_succ' h, List.any_append, List.any_cons, List.any_nil, Bool.or_false, Bool.or_assoc]
def bCells (f : Nat → Bool) : List SV := (List.range 64).map fun v => .v .pl (bool (f v))
theorem bCells_len (f : Nat → Bool) : (bCells f).length = 64 := by unfold bCells; rw [List.length_map, List.length_range]
theorem bCells_get {f : Nat → Bool} (h : v < 64) : (bCells f)[v]? = some (.v .pl (bool (f v))) := by
  unfold bCells; rw [List.getElem?_map, List.getElem?_range h]; rfl
theorem bCells_at {f : Nat → Bool} (h : v < 64) : (bCells f)[0 + (v : Int).toNat]? = some (.v .pl (bool (f v))) := by
  rw [show 0 + (v : Int).toNat = v by omega]; exact bCells_get h
theorem bCells_keep (id : Nat) (f : Nat → Bool) : keepC id (bCells f) = bCells f := by
  unfold keepC bCells
  rw [List.map_map]
  rfl
theorem bCells_step (id : Nat) (h : k < (L.getD j default).syms.length) (hz : 0 ≤ (L.getD j default).syms.getD k default ∧ (L.getD j default).syms.getD k default < 64) :
    spl (keepC id (bCells (rIsAt L j k))) (0 + ((L.getD j default).syms.getD k default).toNat) [.v .pl (bool true)] = bCells (rIsAt L j (k + 1)) := by
  rw [bCells_keep]
  refine List.ext_getElem? fun n => ?_
  rw [spl_get (by rw [bCells_len]; simp only [List.length_singleton]; omega)]
  rcases Nat.lt_or_ge n 64 with hn | hn
  · rw [bCells_get hn, bCells_get hn, rIsAt_succ h]
    split
    · next q =>
      rw [List.length_singleton] at q
      have e : n = ((L.getD j default).syms.getD k default).toNat := by omega
      rw [show n - (0 + ((L.getD j default).syms.getD k default).toNat) = 0 by omega, decide_eq_true (show (L.getD j default).syms.getD k default = (n : Int) by omega), Bool.or_true]; rfl
    · next q =>
      rw [List.length_singleton] at q
      rw [decide_eq_false (show ¬ (L.getD j default).syms.getD k default = (n : Int) by omega), Bool.or_false]
  · rw [if_neg (by simp only [List.length_singleton]; omega), List.getElem?_eq_none (by rw [bCells_len]; exact hn), List.getElem?_eq_none (by rw [bCells_len]; exact hn)]
theorem rSyms_t (h : rIs L v = true) : rSyms L (v + 1) = rSyms L v ++ [(v : Int)] := by
  unfold rSyms; rw [List.range_succ, List.filter_append, List.filter_cons_of_pos h, List.map_append]; rfl
theorem rSyms_f (h : rIs L v = false) : rSyms L (v + 1) = rSyms L v := by
  unfold rSyms; rw [List.range_succ, List.filter_append, List.filter_cons_of_neg (by rw [h]; decide), List.filter_nil, List.append_nil]
theorem rAlt2_t (h : 0 < (rSyms L 64).length) : rAlt2 L = rput (rOut L) (.mk 2 (rSyms L 64) []) := if_pos h
theorem rAlt2_f (h : ¬ 0 < (rSyms L 64).length) : rAlt2 L = rOut L := if_neg h
theorem rAlt3_t (h : rEmp L = true) (h2 : rOth L = false) : rAlt3 L = rput (rAlt2 L) emptyRx := if_pos ⟨h, h2⟩
theorem rAlt3_e (h : rEmp L = false) : rAlt3 L = rAlt2 L := if_neg fun q => by rw [h] at q; cases q.1
theorem rAlt3_o (h : rOth L = true) : rAlt3 L = rAlt2 L := if_neg fun q => by rw [h] at q; cases q.2
end
end Go.Wb

namespace Go.Wb
set_option linter.unusedVariables false
set_option linter.unusedSimpArgs false
open Go.Am
def rStarB (x : Rx) : Rx := if x.kind = 4 then rAlt (x.kids.filter fun y => !decide (y.kind = 1)) else x
theorem rStarB_4 {x : Rx} (h : x.kind = 4) : rStarB x = rAlt (x.kids.filter fun y => !decide (y.kind = 1)) := if_pos h
theorem rStarB_x {x : Rx} (h : ¬ x.kind = 4) : rStarB x = x := if_neg h
theorem rStar_e {x : Rx} (h : x.kind = 0 ∨ x.kind = 1) : rStar x = emptyRx := if_pos h
theorem rStar_5 {x : Rx} (h : ¬ (x.kind = 0 ∨ x.kind = 1)) (h5 : x.kind = 5) : rStar x = x := by unfold rStar; rw [if_neg h, if_pos h5]
theorem rStar_x {x : Rx} (h : ¬ (x.kind = 0 ∨ x.kind = 1)) (h5 : ¬ x.kind = 5) : rStar x = .mk 5 [] [rStarB x] := by unfold rStar; rw [if_neg h, if_neg h5]; rfl
theorem filt_t {p : Rx → Bool} {l : List Rx} {i : Nat} (h : i < l.length) (hp : p (l.getD i default) = true) : (l.take (i + 1)).filter p = (l.take i).filter p ++ [l.getD i default] := by
  rw [take_succ' h, List.filter_append, List.filter_cons_of_pos hp]; rfl
theorem filt_f {p : Rx → Bool} {l : List Rx} {i : Nat} (h : i < l.length) (hp : p (l.getD i default) = false) : (l.take (i + 1)).filter p = (l.take i).filter p := by
  rw [take_succ' h, List.filter_append, List.filter_cons_of_neg (by rw [hp]; decide), List.filter_nil, List.append_nil]
abbrev no1 (y : Rx) : Bool := !decide (y.kind = 1)
theorem no1_t {y : Rx} (h : ¬ y.kind = 1) : no1 y = true := by simp [h]
theorem no1_f {y : Rx} (h : y.kind = 1) : no1 y = false := by simp [h]
theorem sizes_filter (p : Rx → Bool) (l : List Rx) : Rx.sizes (l.filter p) ≤ Rx.sizes l := sizes_sublist List.filter_sublist
theorem Nf.kids {x y : Rx} (h : Nf x) (hy : y ∈ x.kids) : Nf y := by
  cases h with
  | none => cases hy
  | empty => cases hy
  | set h => cases hy
  | seq h1 h2 h3 => exact h2 y hy
  | alt h1 h2 h3 h4 h5 h6 => exact h2 y hy
  | star h1 h2 h3 => rw [List.mem_singleton.1 hy]; exact h1
def nrL (t : Bool) (r : Rx) : List Rx := if t = true ∧ r.kind = 3 then (r.kids.map (buildR t)).reverse else r.kids.map (buildR t)
theorem nrL_len (t : Bool) (r : Rx) : (nrL t r).length = r.kids.length := by unfold nrL; split <;> simp
theorem nrL_t {t : Bool} {r : Rx} {i k : Nat} (ht : t = true) (h3 : r.kind = 3) (hi : i < r.kids.length) (hk : (k : Int) = (r.kids.length : Int) - 1 - i) : (nrL t r).getD i default = buildR t (r.kids.getD k default) := by
  unfold nrL
  rw [if_pos ⟨ht, h3⟩, List.getD_eq_getElem?_getD, List.getElem?_reverse (by rw [List.length_map]; exact hi), List.length_map, List.getElem?_map, ← show k = r.kids.length - 1 - i by omega, List.getElem?_eq_getElem (show k < r.kids.length by omega), Option.map_some, Option.getD_some, getD_el (by omega)]
theorem nrL_f {t : Bool} {r : Rx} {i : Nat} (h : ¬ (t = true ∧ r.kind = 3)) (hi : i < r.kids.length) : (nrL t r).getD i default = buildR t (r.kids.getD i default) := by
  unfold nrL; rw [if_neg h, getD_map hi]
theorem nrL_sizes (t : Bool) (r : Rx) : Rx.sizes (nrL t r) ≤ 2 * Rx.sizes r.kids := by
  have := sizes_build t r.kids
  unfold nrL; split
  · rw [sizes_rev]; exact this
  · exact this
theorem nrL_nf {t : Bool} {r : Rx} (hv : validR r = true) : ∀ x ∈ nrL t r, Nf x := fun x hx => by
  have : x ∈ r.kids.map (buildR t) := by
    unfold nrL at hx; split at hx
    · exact List.mem_reverse.1 hx
    · exact hx
  obtain ⟨y, hy, rfl⟩ := List.mem_map.1 this
  exact build_nf t y (valid_kids hv y hy)
theorem nr_3 {t : Bool} {r : Rx} (h : r.kind = 3) : buildR t r = seqN (nrL t r) := by
  unfold nrL
  cases t with
  | true => rw [if_pos ⟨rfl, h⟩]; exact buildR_3t h
  | false => rw [if_neg (fun q => by cases q.1)]; exact buildR_3f h
theorem nr_4 {t : Bool} {r : Rx} (hv : validR r = true) (h : r.kind = 4) : buildR t r = rAlt (nrL t r) := by
  rw [rAlt_eq (nrL_nf hv)]; unfold nrL; rw [if_neg fun q => by omega]; exact buildR_4 h
theorem nr_5 {t : Bool} {r : Rx} (hv : validR r = true) (h : r.kind = 5) : buildR t r = rStar ((nrL t r).getD 0 default) := by
  have hl := (valid_5 hv h).2
  rw [rStar_eq (nrL_nf hv _ (kid_mem (by rw [nrL_len]; omega)))]; unfold nrL; rw [if_neg fun q => by omega]; exact buildR_5 h
theorem nr_x {t : Bool} {r : Rx} (hv : validR r = true) (h3 : ¬ r.kind = 3) (h4 : ¬ r.kind = 4) (h5 : ¬ r.kind = 5) : buildR t r = r := by
  rw [buildR_x h3 h4 h5]
  have hk := valid_kinds hv
  have : r.kids = [] := by
    by_cases h2 : r.kind = 2
    · rw [validR_2 h2, Bool.and_eq_true] at hv
      exact List.eq_nil_of_length_eq_zero (of_decide_eq_true hv.1)
    · rw [validR_01 (by omega), Bool.and_eq_true] at hv
      exact List.eq_nil_of_length_eq_zero (of_decide_eq_true hv.2)
  rw [← this, ← Rx.eta]
end Go.Wb

namespace Go.Wb
set_option linter.unusedVariables false
set_option linter.unusedSimpArgs false
open Go.Am
def sufs : List Int → List (List Int)
  | [] => [[]]
  | a :: v => (a :: v) :: sufs v
def sufp : List Int → List (List Int)
  | [] => []
  | a :: v => (a :: v) :: sufp v
def Dv (x : Rx) (v : List Int) : Rx := v.foldl (fun t b => dR b t) x
def als (t : Rx) : List Rx := (altF t).filter fun a => decide (3 ≤ a.kind)
def stp (b : Int) : List Rx → List (List Rx)
  | [] => []
  | x :: l => if (dR b x).kind = 0 then stp b l else (seqF (dR b x) ++ l) :: stp b l
def cv (x : Rx) (u : List Int) (T : List (List Rx)) : List (List Rx) := if x.kind = 5 then T else seqF (Dv x u) :: T
mutual
def covT : Rx → List Int → List (List Rx)
  | .mk k s l, v => if k = 4 then covA l v else if k = 3 then covQ l v else if k = 5 then [.mk k s l] :: covS l v (.mk k s l) else []
def covA : List Rx → List Int → List (List Rx)
  | [], _ => []
  | x :: l, v => covT x v ++ covA l v
def covQ : List Rx → List Int → List (List Rx)
  | [], _ => []
  | x :: l, v => (sufs v).flatMap (fun u => (cv x u (covT x u)).map (· ++ l)) ++ covQ l v
def covS : List Rx → List Int → Rx → List (List Rx)
  | [], _, _ => []
  | x :: _, v, r => (sufp v).flatMap fun u => (cv x u (covT x u)).map (· ++ [r])
end
structure Cov (x : Rx) : Prop where
  base : ∀ a ∈ als x, seqF a ∈ covT x []
  exp : ∀ v z, [z] ∈ covT x v → z.kind = 4 → ∀ a ∈ als z, seqF a ∈ covT x v
  step : ∀ v b L L', L ∈ covT x v → L' ∈ stp b L → L' ∈ covT x (v ++ [b])
  all : ∀ v a, a ∈ als (Dv x v) → seqF a ∈ covT x v
end Go.Wb

namespace Go.Wb
set_option linter.unusedVariables false
set_option linter.unusedSimpArgs false
open Go.Am Go.Wc
mutual
def wtR : Rx → Nat
  | .mk k _ l => if k = 3 ∨ k = 4 then wtS l else if k = 5 then 1 + wtS l else if k = 2 then 2 else 1
def wtS : List Rx → Nat
  | [] => 0
  | x :: l => wtR x + wtS l
end
inductive Shp : Rx → Prop
  | leaf {k : Int} {s : List Int} : k = 0 ∨ k = 1 ∨ k = 2 → Shp (.mk k s [])
  | star {x : Rx} : Shp x → Shp (.mk 5 [] [x])
  | pair {k : Int} {x y : Rx} : k = 3 ∨ k = 4 → Shp x → Shp y → Shp (.mk k [] [x, y])
def Top (n : Nat) (t : Rx) : Prop := t.kind ≠ 0 → wtS (seqF t) ≤ (seqF t).length + n
end Go.Wb

namespace Go.Wb
set_option linter.unusedVariables false
set_option linter.unusedSimpArgs false
open Go.Am
mutual
def dZ : Rx → Nat
  | .mk k s l => if k = 4 then 2 + dZs l else if k = 3 then 2 + Zq l else if k = 5 then 2 + dZs l + (Rx.mk k s l).size else 2
def dZs : List Rx → Nat
  | [] => 0
  | x :: l => dZ x + dZs l
def Zq : List Rx → Nat
  | [] => 0
  | x :: l => 2 + dZ x + Rx.sizes l + Zq l
end
theorem Nf.kid {x y : Rx} (h : Nf x) (hy : y ∈ x.kids) : Nf y := by
  cases h with
  | none => cases hy
  | empty => cases hy
  | set h => cases hy
  | seq h1 h2 h3 => exact h2 y hy
  | alt h1 h2 h3 h4 h5 h6 => exact h2 y hy
  | star h1 h2 h3 => rw [List.mem_singleton.1 hy]; exact h1
def WW : List (List Rx) → Nat
  | [] => 0
  | L :: l => 2 + Zq L + WW l
def sumTo (g : Nat → Nat) : Nat → Nat
  | 0 => g 0
  | n + 1 => sumTo g n + g (n + 1)
def sumP (g : Nat → Nat) : Nat → Nat
  | 0 => 0
  | n + 1 => sumP g n + g (n + 1)
structure Tab (C N R : Nat) (f F s S a A g G : Nat → Nat → Nat) : Prop where
  fa : ∀ c, c ≤ C → ∀ n, n ≤ N → f c n ≤ a c n ∧ F c n ≤ A c n
  sa : ∀ c, c ≤ C → ∀ n, n ≤ N → s c n ≤ a c n ∧ S c n ≤ A c n
  ag : ∀ c, c ≤ C → ∀ n, n ≤ N → a c n ≤ g c n ∧ A c n ≤ G c n
  fg : ∀ c, c ≤ C → ∀ n, n ≤ N → sumTo (fun j => 1 + f c j) n ≤ g c n ∧ sumTo (fun j => 10 + 2 * F c j + (1 + f c j) * R) n ≤ G c n
  sg : ∀ c, c ≤ C → ∀ n, n ≤ N → sumTo (fun j => s c j) n ≤ g c n ∧ sumTo (fun j => S c j + s c j * R) n ≤ G c n
  st : ∀ c, 2 ≤ c → c < C → ∀ n, n ≤ N → 1 + sumP (fun j => 1 + f c j) n ≤ s (c + 1) n ∧ 2 + R + sumP (fun j => 10 + 2 * F c j + (1 + f c j) * R) n ≤ S (c + 1) n
  alt : ∀ c, 1 ≤ c → c ≤ C → ∀ d, 1 ≤ d → d ≤ C - c → ∀ n, n ≤ N → a c n + a d n ≤ f (c + d) n ∧ A c n + A d n ≤ F (c + d) n
  seq : ∀ c, 2 ≤ c → c ≤ C → ∀ d, 2 ≤ d → d ≤ C - c → ∀ n, n ≤ N → g c n + g d n ≤ f (c + d) n ∧ G c n + G d n ≤ F (c + d) n
section
variable {C N R Z : Nat} {f F s S a A g G : Nat → Nat → Nat}
def Bd (N : Nat) (f F s S : Nat → Nat → Nat) (x : Rx) : Prop := ∀ v : List Int, v.length ≤ N →
  (x.kind ≠ 5 → (covT x v).length ≤ f (wtR x) v.length ∧ WW (covT x v) ≤ F (wtR x) v.length) ∧ (x.kind = 5 → (covT x v).length ≤ s (wtR x) v.length ∧ WW (covT x v) ≤ S (wtR x) v.length)
end
end Go.Wb

