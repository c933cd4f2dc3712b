/-
  Plain functions: what is reached, step by step; its rows.
-/
import Derived.Test.YtjimlkpfmbachaaGreatJ15
import Derived.Test.YtjimlkpfmbachaaGreatJ9
import Derived.Test.YtjimlkpfmbachaaGreatJ16
set_option linter.unusedVariables false
set_option linter.unusedSectionVars false
set_option linter.unusedSimpArgs false
namespace Go.Am
open Go.RowKit
set_option linter.unusedVariables false
section
variable {P : Program} {w0 : Fr} {M0 : Nat → Prop}
variable {o : Oper} {x y z : Operand} {T T' e : TypeId} {k b : Nat} {c : Cls} {id off : Nat} {s : St} {t : Nat} {xs : List AV}
def viewX (ob : List (Nat × Ob)) : SV → Option AV
  | .v _ d => some d
  | d => (view ob d).map (·.2)
def viewAllX (ρ : Operand → Option SV) (ob : List (Nat × Ob)) : List Operand → Option (List AV)
  | [] => some []
  | x :: r => match (ρ x).bind (viewX ob), viewAllX ρ ob r with
    | some d, some ds => some (d :: ds)
    | _, _ => none
theorem viewX_ok {w : World} {E : Env} {ob : List (Nat × Ob)} {v : Value} {s : SV} {d : AV} (hw : WOk P w0 M0 E ob w) (h : SVok P M0 w E ob v s) (hv : viewX ob s = some d) : Rep w (fun _ => False) v d := by
  unfold viewX at hv
  split at hv
  · simp only [Option.some.injEq] at hv
    subst hv
    exact Rep.weak h (fun b hb => hb.elim)
  · rw [Option.map_eq_some_iff] at hv
    obtain ⟨⟨c, d'⟩, h1, rfl⟩ := hv
    exact (view_ok hw h h1).weak (fun b hb => hb.elim)
theorem viewAllX_ok {ρ : Operand → Option SV} {ob : List (Nat × Ob)} {E : Env} {w : World} {ev : Operand → Value} (hw : WOk P w0 M0 E ob w) (h : ∀ x e, ρ x = some e → SVok P M0 w E ob (ev x) e) :
    ∀ (xs : List Operand) (ds : List AV), viewAllX ρ ob xs = some ds → xs.length = ds.length ∧ ∀ (j : Nat) d, ds[j]? = some d → Rep w (fun _ => False) ((xs.map ev).getD j undef) d
  | [], ds, hd => by
    simp only [viewAllX, Option.some.injEq] at hd
    subst hd
    exact ⟨rfl, fun j d hd => by simp at hd⟩
  | x :: r, ds, hd => by
    unfold viewAllX at hd
    split at hd
    · rename_i d0 ds0 h1 h2
      simp only [Option.some.injEq] at hd
      subst hd
      have ih := viewAllX_ok hw h r ds0 h2
      refine ⟨by simp [ih.1], fun j d hd => ?_⟩
      cases j with
      | zero =>
        simp only [List.getElem?_cons_zero, Option.some.injEq] at hd
        subst hd
        rw [Option.bind_eq_some_iff] at h1
        obtain ⟨q, h3, h4⟩ := h1
        exact viewX_ok hw (h x q h3) h4
      | succ j => exact ih.2 j d (by simpa using hd)
    · cases hd
theorem args_repX {ρ : Operand → Option SV} {ob : List (Nat × Ob)} {E : Env} {w : World} {ev : Operand → Value} (hw : WOk P w0 M0 E ob w) (h : ∀ x e, ρ x = some e → SVok P M0 w E ob (ev x) e) {aa : List Operand} {ds caps : List AV} (ha : viewAllX ρ ob aa = some ds) {vs : List Value} {M : Nat → Prop} (hn : vs.length = caps.length)
    (hr : ∀ (j : Nat) d, caps[j]? = some d → Rep w M (vs.getD j undef) d) : (aa.map ev ++ vs).length = (ds ++ caps).length ∧ ∀ (j : Nat) d, (ds ++ caps)[j]? = some d → Rep w (fun _ => False) ((aa.map ev ++ vs).getD j undef) d := by
  have hv := viewAllX_ok hw h _ _ ha
  refine ⟨by simp [hv.1, hn], fun j d hd => ?_⟩
  rw [List.getD_eq_getElem?_getD]
  rcases Nat.lt_or_ge j ds.length with hlt | hge
  · rw [List.getElem?_append_left hlt] at hd
    have := hv.2 j d hd
    rw [List.getElem?_append_left (by simp [hv.1]; omega)]
    rwa [List.getD_eq_getElem?_getD] at this
  · rw [List.getElem?_append_right hge] at hd
    have := hr _ d hd
    rw [List.getElem?_append_right (by simp [hv.1]; omega)]
    simp only [List.length_map, hv.1]
    rw [List.getD_eq_getElem?_getD] at this
    exact this.weak (fun b hb => hb.elim)
theorem step_call_ownX {cx : Operand} {args : Array Operand} {ats : Array TypeId} {c : Cls} {f : FuncId} {caps ds : List AV}
    (ho : o.op = .call { callee := .value cx, args := args, argTypes := ats }) (hd : o.dst = some t) (hn : Nat.blt t s.n = true) (hnd : Nodup s.s = true) (hc : s.ev cx = some (.v c (.clo f caps))) (ha : viewAllX s.ev s.o args.toList = some ds) (h : CallF P f (ds ++ caps) (.fresh e xs))
    (hM0 : ∀ b, M0 b → b < w0.w.heap.size) : Step P w0 M0 o s ((s.upd true t (.arr e xs)).put t (.own t)) := by
  rintro a w Q ⟨E, hs⟩
  have hcv := hs.ev hc
  simp only [SVok] at hcv
  generalize hq : a.eval cx = q at hcv
  cases hcv with
  | clo _ vs _ hnc hr =>
    have hv := args_repX hs.wok (fun x e hx => hs.ev hx) ha hnc hr
    unfold Oper.wp
    rw [run_call ho hq h.1]
    simp only [Oper.upon]
    have hall := h.2 w (args.toList.map a.eval ++ vs) hv.1 hv.2
    have e1 : (args.toList.map a.eval ++ vs).toArray = args.map a.eval ++ vs.toArray := by apply Array.ext' ; simp
    rw [e1] at hall
    refine hall.mono fun e' w' ⟨v, he, hb, hrv⟩ => ?_
    subst he
    obtain ⟨vals, h1, h2, h3⟩ := hrv
    simp only [hd]
    refine ⟨{ E with cur := fun i => if i = t then v else E.cur i }, SimE.put ?_ (by simpa [St.upd] using hn) sv_own_new⟩
    refine hs.newArr hnd hM0 (grownBy_of_below hb) (fun _ => hb.drawn trivial) (vals := vals) ?_ (fun b hb => Nat.le_of_not_lt (h1.2 b hb)) h2 (fun j d hd => ⟨(h3 j d hd).1, .inr (h3 j d hd).2⟩)
    exact h1.1
theorem pure_callX {ρ : Operand → Option SV} {ob : List (Nat × Ob)} {cx : Operand} {args : Array Operand} {ats : Array TypeId} {c : Cls} {f : FuncId} {caps ds : List AV} {r : RV}
    (ho : o.op = .call { callee := .value cx, args := args, argTypes := ats }) (hc : ρ cx = some (.v c (.clo f caps))) (ha : viewAllX ρ ob args.toList = some ds) (h : CallF P f (ds ++ caps) r)
    (hM0 : ∀ b, M0 b → b < w0.w.heap.size) : Pure P w0 M0 o ρ ob (.v .pl r.data) := by
  intro E w ev hw hx
  have hcv := hx cx _ hc
  simp only [SVok] at hcv
  generalize hq : ev cx = q at hcv
  cases hcv with
  | clo _ vs _ hn hr =>
    have hv := args_repX hw hx ha hn hr
    unfold Yield
    rw [run_call ho hq h.1]
    refine ⟨rfl, ?_⟩
    have hall := h.2 w (args.toList.map ev ++ vs) hv.1 hv.2
    have e1 : (args.toList.map ev ++ vs).toArray = args.map ev ++ vs.toArray := by apply Array.ext' ; simp
    rw [e1] at hall
    refine hall.mono fun e w' ⟨v, he, hb, hrv⟩ => ⟨v, he, hb.to, ?_⟩
    have hrep := hrv.rep (fun b hb => hb)
    refine hrep.weak fun b hb' => ?_
    rcases hb' with hb' | hb'
    · have := hM0 b hb'; have := hw.below.size; omega
    · exact (hw.owned_range hb').2
theorem pure_callD {ρ : Operand → Option SV} {ob : List (Nat × Ob)} {cx : Operand} {args : Array Operand} {ats : Array TypeId} {c : Cls} {f : FuncId} {caps ds : List AV} {d : AV}
    (ho : o.op = .call { callee := .value cx, args := args, argTypes := ats }) (hc : ρ cx = some (.v c (.clo f caps))) (ha : viewAll ρ ob args.toList = some ds) (h : CallF P f (ds ++ caps) (.p d))
    (hM0 : ∀ b, M0 b → b < w0.w.heap.size) : Pure P w0 M0 o ρ ob (.v .pl d) := pure_call (r := .p d) ho hc ha h hM0
theorem pure_tupl {ρ : Operand → Option SV} {ob : List (Nat × Ob)} {u v : Value} (h : Pure P w0 M0 o ρ ob (.v c (.tup [.sc u, .sc v]))) : Pure P w0 M0 o ρ ob (.v .pl (.tup [.sc u, .sc v])) := by
  intro E w ev hw hx
  have h := h E w ev hw hx
  have key : ∀ (z : Value) (w' : World), SVok P M0 w' E ob z (.v c (.tup [.sc u, .sc v])) → SVok P M0 w' E ob z (.v .pl (.tup [.sc u, .sc v])) := fun z w' hr => by
    have hr : Rep w' _ z (.tup [.sc u, .sc v]) := hr
    show Rep w' _ z (.tup [.sc u, .sc v])
    cases hr with
    | tup vs _ hn hr =>
      refine .tup vs _ hn fun j d hj => ?_
      have hq := hr j d hj
      match j with
      | 0 =>
        simp only [List.getElem?_cons_zero, Option.some.injEq] at hj; subst hj
        generalize vs.getD 0 undef = y at hq ⊢
        cases hq with | sc _ h1 => exact .sc _ h1
      | 1 =>
        simp only [List.getElem?_cons_succ, List.getElem?_cons_zero, Option.some.injEq] at hj; subst hj
        generalize vs.getD 1 undef = y at hq ⊢
        cases hq with | sc _ h1 => exact .sc _ h1
      | j + 2 => simp at hj
  unfold Yield at h ⊢
  generalize (execOp ev o).run P w = r at *
  match r, h with
  | .ok (.value z) w', h => exact ⟨h.1, key z w' h.2⟩
  | .ok (.enter f args) w', h =>
    refine ⟨h.1, h.2.mono fun e w'' ⟨z, he, hb, hz⟩ => ⟨z, he, hb, key z w'' hz⟩⟩
theorem pure_scl {ρ : Operand → Option SV} {ob : List (Nat × Ob)} {u : Value} (h : Pure P w0 M0 o ρ ob (.v c (.sc u))) : Pure P w0 M0 o ρ ob (.v .pl (.sc u)) := by
  intro E w ev hw hx
  have h := h E w ev hw hx
  have key : ∀ (z : Value) (w' : World), SVok P M0 w' E ob z (.v c (.sc u)) → SVok P M0 w' E ob z (.v .pl (.sc u)) := fun z w' hr => by
    have hr : Rep w' _ z (.sc u) := hr
    show Rep w' _ z (.sc u)
    cases hr with | sc _ h1 => exact .sc _ h1
  unfold Yield at h ⊢
  generalize (execOp ev o).run P w = r at *
  match r, h with
  | .ok (.value z) w', h => exact ⟨h.1, key z w' h.2⟩
  | .ok (.enter f args) w', h =>
    refine ⟨h.1, h.2.mono fun e w'' ⟨z, he, hb, hz⟩ => ⟨z, he, hb, key z w'' hz⟩⟩
end
end Go.Am

namespace Go.Wb
open Go.Am
inductive Rx where
  | mk (kind : Int) (syms : List Int) (kids : List Rx)
def Rx.kind : Rx → Int | .mk k _ _ => k
def Rx.syms : Rx → List Int | .mk _ s _ => s
def Rx.kids : Rx → List Rx | .mk _ _ l => l
instance : Inhabited Rx := ⟨.mk 0 [] []⟩
mutual
def Rx.av : Rx → AV
  | .mk k s l => .agg [int k, ints s, .sl (Rx.avs l)]
def Rx.avs : List Rx → List AV
  | [] => []
  | x :: l => x.av :: Rx.avs l
end
def rx (r : Rx) : AV := .agg [int r.kind, ints r.syms, .sl (Rx.avs r.kids)]
abbrev rxs (l : List Rx) : AV := .sl (l.map rx)
theorem av_eq (r : Rx) : r.av = rx r := by cases r with | mk k s l => rw [Rx.av]; rfl
theorem avs_eq : ∀ l : List Rx, Rx.avs l = l.map rx
  | [] => by rw [Rx.avs]; rfl
  | x :: l => by rw [Rx.avs, avs_eq l, av_eq]; rfl
theorem rx_eq (r : Rx) : rx r = .agg [int r.kind, ints r.syms, rxs r.kids] := by unfold rx; rw [avs_eq]
abbrev rpc (r : Rx) : AV := .pc [int r.kind, ints r.syms, rxs r.kids] 0
abbrev rcells (c : Cls) (r : Rx) : List SV := [.v c (int r.kind), .v c (ints r.syms), .v c (rxs r.kids)]
mutual
def Rx.size : Rx → Nat
  | .mk _ s l => 1 + s.length + Rx.sizes l
def Rx.sizes : List Rx → Nat
  | [] => 0
  | x :: l => x.size + Rx.sizes l
end
theorem size_mem : ∀ {l : List Rx} {x : Rx}, x ∈ l → x.size ≤ Rx.sizes l
  | y :: l, x, h => by
    rw [Rx.sizes]
    rcases List.mem_cons.1 h with rfl | h
    · omega
    · have := size_mem h; omega
theorem size_kid {r x : Rx} (h : x ∈ r.kids) : x.size < r.size := by
  cases r with | mk k s l => rw [Rx.size]; have := size_mem (l := l) h; omega

theorem size_pos (r : Rx) : 1 ≤ r.size := by cases r with | mk k s l => rw [Rx.size]; omega
theorem kid_mem {l : List Rx} {i : Nat} (h : i < l.length) : l.getD i default ∈ l := by
  rw [List.getD_eq_getElem?_getD, List.getElem?_eq_getElem h]; exact List.getElem_mem h
theorem kid_lt {r : Rx} {i : Nat} (h : i < r.kids.length) : (r.kids.getD i default).size < r.size := size_kid (kid_mem h)
theorem drop_cons {α : Type} [Inhabited α] {l : List α} {k : Nat} (h : k < l.length) : l.drop k = l.getD k default :: l.drop (k + 1) := by
  rw [List.drop_eq_getElem_cons h, List.getD_eq_getElem?_getD, List.getElem?_eq_getElem h]; rfl
theorem sizes_len : ∀ l : List Rx, l.length ≤ Rx.sizes l
  | [] => Nat.zero_le _
  | x :: l => by rw [Rx.sizes, List.length_cons]; have := sizes_len l; have := size_pos x; omega
theorem size_eq (r : Rx) : r.size = 1 + r.syms.length + Rx.sizes r.kids := by cases r with | mk k s l => rw [Rx.size]; rfl
theorem syms_len (r : Rx) : r.syms.length < r.size := by rw [size_eq]; omega
theorem kids_len (r : Rx) : r.kids.length < r.size := by rw [size_eq]; have := sizes_len r.kids; omega

mutual
def nodesV (most : Int) : Rx → Int
  | .mk _ _ l => nodesG most 1 l
def nodesG (most : Int) (n : Int) : List Rx → Int
  | [] => n
  | x :: l => if n ≤ most then nodesG most (n + nodesV most x) l else n
end
theorem sizes_step {l : List Rx} {i : Nat} (h : i < l.length) : Rx.sizes (l.drop i) = (l.getD i default).size + Rx.sizes (l.drop (i + 1)) := by
  rw [drop_cons h, Rx.sizes]
mutual
theorem nodesV_bd (most : Int) : ∀ r : Rx, 1 ≤ nodesV most r ∧ nodesV most r ≤ r.size
  | .mk _ _ l => by
    rw [nodesV, Rx.size]
    have := nodesG_bd most 1 (by omega) l
    omega
theorem nodesG_bd (most n : Int) (hn : 1 ≤ n) : ∀ l : List Rx, 1 ≤ nodesG most n l ∧ nodesG most n l ≤ n + Rx.sizes l
  | [] => by rw [nodesG, Rx.sizes]; omega
  | x :: l => by
    rw [nodesG, Rx.sizes]
    have h1 := nodesV_bd most x
    have h2 := nodesG_bd most (n + nodesV most x) (by omega) l
    split <;> omega
end

def okAt (l : List Int) (j : Nat) : Prop := 0 ≤ l.getD j default ∧ l.getD j default < 64 ∧ (0 < j → l.getD ((j : Int) - 1).toNat default < l.getD j default)
instance (l : List Int) (j : Nat) : Decidable (okAt l j) := by unfold okAt; exact inferInstance
def setOk (l : List Int) : Bool := decide (0 < l.length ∧ ∀ j, j < l.length → okAt l j)
theorem setOk_no {l : List Int} {k : Nat} (hk : k < l.length) (h : ¬ okAt l k) : false = setOk l := by
  symm; unfold setOk; rw [decide_eq_false_iff_not]; exact fun q => h (q.2 k hk)
theorem setOk_end {l : List Int} (h : ∀ j, j < l.length → okAt l j) : setOk l = decide (0 < l.length) := by
  unfold setOk; exact decide_eq_decide.2 ⟨fun q => q.1, fun q => ⟨q, h⟩⟩
theorem all_step {P : Nat → Prop} {k : Nat} (h : ∀ j, j < k → P j) (h2 : P k) : ∀ j, j < k + 1 → P j := fun j hj => by
  rcases Nat.lt_or_eq_of_le (Nat.lt_succ_iff.1 hj) with q | rfl
  · exact h j q
  · exact h2
def orderI (a b : Int) : Int := if a < b then -1 else if b < a then 1 else 0
def thn (c d : Int) : Int := if c = 0 then d else c
def orderL : List Int → List Int → Int
  | [], [] => 0
  | [], _ :: _ => -1
  | _ :: _, [] => 1
  | x :: xs, y :: ys => thn (orderI x y) (orderL xs ys)
mutual
def cmpR : Rx → Rx → Int
  | .mk k s l, b => thn (orderI k b.kind) (thn (orderL s b.syms) (cmpRs l b.kids))
def cmpRs : List Rx → List Rx → Int
  | [], [] => 0
  | [], _ :: _ => -1
  | _ :: _, [] => 1
  | x :: xs, y :: ys => thn (cmpR x y) (cmpRs xs ys)
end
theorem cmpR_eq (a b : Rx) : cmpR a b = thn (thn (orderI a.kind b.kind) (orderL a.syms b.syms)) (cmpRs a.kids b.kids) := by
  cases a with | mk k s l =>
  rw [cmpR]; show _ = thn (thn (orderI k _) (orderL s _)) (cmpRs l _)
  unfold thn; split <;> simp_all
theorem orderL_step {a b : List Int} {k : Nat} (ha : k < a.length) (hb : k < b.length) : orderL (a.drop k) (b.drop k) = thn (orderI (a.getD k default) (b.getD k default)) (orderL (a.drop (k + 1)) (b.drop (k + 1))) := by
  rw [drop_cons ha, drop_cons hb]; rfl
theorem orderL_end {a b : List Int} {k : Nat} (h : a.length ≤ k ∨ b.length ≤ k) (ha : k ≤ a.length) (hb : k ≤ b.length) : orderL (a.drop k) (b.drop k) = orderI a.length b.length := by
  unfold orderI
  rcases Nat.lt_or_ge k a.length with h1 | h1
  · have h2 : b.length ≤ k := by omega
    rw [drop_cons h1, List.drop_of_length_le h2, if_neg (by omega), if_pos (by omega)]; rfl
  · rw [List.drop_of_length_le h1]
    rcases Nat.lt_or_ge k b.length with h2 | h2
    · rw [drop_cons h2, if_pos (by omega)]; rfl
    · rw [List.drop_of_length_le h2, if_neg (by omega), if_neg (by omega)]; rfl
theorem cmpRs_step {a b : List Rx} {k : Nat} (ha : k < a.length) (hb : k < b.length) : cmpRs (a.drop k) (b.drop k) = thn (cmpR (a.getD k default) (b.getD k default)) (cmpRs (a.drop (k + 1)) (b.drop (k + 1))) := by
  rw [drop_cons ha, drop_cons hb, cmpRs]
theorem cmpRs_end {a b : List Rx} {k : Nat} (h : a.length ≤ k ∨ b.length ≤ k) (ha : k ≤ a.length) (hb : k ≤ b.length) : cmpRs (a.drop k) (b.drop k) = orderI a.length b.length := by
  unfold orderI
  rcases Nat.lt_or_ge k a.length with h1 | h1
  · have h2 : b.length ≤ k := by omega
    rw [drop_cons h1, List.drop_of_length_le h2, if_neg (by omega), if_pos (by omega), cmpRs]
  · rw [List.drop_of_length_le h1]
    rcases Nat.lt_or_ge k b.length with h2 | h2
    · rw [drop_cons h2, if_pos (by omega), cmpRs]
    · rw [List.drop_of_length_le h2, if_neg (by omega), if_neg (by omega), cmpRs]
theorem thn_zero {c d : Int} (h : c = 0) : thn c d = d := if_pos h
theorem thn_ne {c d : Int} (h : ¬ c = 0) : thn c d = c := if_neg h
mutual
def validR : Rx → Bool
  | .mk k s l => if k < 0 ∨ 5 < k then false else if k = 2 then setOk s && decide (l.length = 0) else
      if 0 < s.length ∨ (k ≤ 1 ∧ 0 < l.length) ∨ (k = 5 ∧ l.length ≠ 1) then false else validRs l
def validRs : List Rx → Bool
  | [] => true
  | x :: l => validR x && validRs l
end
theorem validR_eq (r : Rx) : validR r = if r.kind < 0 ∨ 5 < r.kind then false else if r.kind = 2 then setOk r.syms && decide (r.kids.length = 0) else
      if 0 < r.syms.length ∨ (r.kind ≤ 1 ∧ 0 < r.kids.length) ∨ (r.kind = 5 ∧ r.kids.length ≠ 1) then false else validRs r.kids := by
  cases r with | mk k s l => rw [validR]; rfl
theorem validRs_all : ∀ l : List Rx, validRs l = l.all validR
  | [] => by rw [validRs]; rfl
  | x :: l => by rw [validRs, validRs_all l]; rfl
def idxF {α : Type} [Inhabited α] (p : α → Bool) (l : List α) : Int := if l.any p then (l.findIdx p : Nat) else -1
theorem any_no {α : Type} [Inhabited α] {p : α → Bool} {l : List α} (h : ∀ j, j < l.length → p (l.getD j default) = false) : l.any p = false := by
  rw [List.any_eq_false]
  intro x hx
  obtain ⟨j, hj, rfl⟩ := List.getElem_of_mem hx
  have := h j hj
  rw [List.getD_eq_getElem?_getD, List.getElem?_eq_getElem hj] at this
  exact fun q => by rw [Option.getD_some] at this; rw [q] at this; exact absurd this (by decide)
theorem idxF_none {α : Type} [Inhabited α] {p : α → Bool} {l : List α} (h : ∀ j, j < l.length → p (l.getD j default) = false) : -1 = idxF p l := by
  unfold idxF; rw [any_no h]; rfl
theorem idxF_hit {α : Type} [Inhabited α] {p : α → Bool} {l : List α} {k : Nat} (hk : k < l.length) (h : ∀ j, j < k → p (l.getD j default) = false) (hp : p (l.getD k default) = true) : (k : Int) = idxF p l := by
  have hg : l.getD k default = l[k] := by rw [List.getD_eq_getElem?_getD, List.getElem?_eq_getElem hk]; rfl
  rw [hg] at hp
  unfold idxF
  rw [if_pos (List.any_eq_true.2 ⟨_, List.getElem_mem hk, hp⟩)]
  have h1 : l.findIdx p = k := by
    refine (List.findIdx_eq hk).2 ⟨hp, fun j hj => ?_⟩
    have := h j hj
    rwa [List.getD_eq_getElem?_getD, List.getElem?_eq_getElem (by omega)] at this
  rw [h1]
theorem idxF_ge {α : Type} [Inhabited α] (p : α → Bool) (l : List α) : decide (0 ≤ idxF p l) = l.any p := by
  unfold idxF; split
  · rename_i h; rw [h]; exact decide_eq_true (by omega)
  · rename_i h; rw [Bool.not_eq_true] at h; rw [h]; rfl

mutual
def accR : Rx → Bool
  | .mk k _ l => if k = 3 then accAll l else if k = 4 then accAny l else decide (k = 1 ∨ k = 5)
def accAll : List Rx → Bool
  | [] => true
  | x :: l => accR x && accAll l
def accAny : List Rx → Bool
  | [] => false
  | x :: l => accR x || accAny l
end
theorem accAll_eq : ∀ l : List Rx, accAll l = l.all accR
  | [] => by rw [accAll]; rfl
  | x :: l => by rw [accAll, accAll_eq l]; rfl
theorem accAny_eq : ∀ l : List Rx, accAny l = l.any accR
  | [] => by rw [accAny]; rfl
  | x :: l => by rw [accAny, accAny_eq l]; rfl
theorem accR_eq (r : Rx) : accR r = if r.kind = 3 then r.kids.all accR else if r.kind = 4 then r.kids.any accR else decide (r.kind = 1 ∨ r.kind = 5) := by
  cases r with | mk k s l => rw [accR, accAll_eq, accAny_eq]; rfl
theorem any_yes {p : Rx → Bool} {l : List Rx} {i : Nat} (h : i < l.length) (hv : p (l.getD i default) = true) : l.any p = true :=
  List.any_eq_true.2 ⟨_, kid_mem h, hv⟩

theorem all_not_any {p : Rx → Bool} (l : List Rx) : l.all p = !(l.any fun x => !p x) := by
  induction l with
  | nil => rfl
  | cons x l ih => rw [List.all_cons, List.any_cons, ih]; cases p x <;> cases l.any _ <;> rfl
theorem validR_01 {r : Rx} (h : r.kind = 0 ∨ r.kind = 1) : validR r = (decide (r.syms.length = 0) && decide (r.kids.length = 0)) := by
  rw [validR_eq, if_neg (by omega), if_neg (by omega)]
  by_cases h1 : r.syms.length = 0 <;> by_cases h2 : r.kids.length = 0
  · rw [if_neg (by omega), decide_eq_true h1, decide_eq_true h2, validRs_all, List.length_eq_zero_iff.1 h2]; rfl
  · rw [if_pos (by omega), decide_eq_false h2, Bool.and_false]
  · rw [if_pos (by omega), decide_eq_false h1, Bool.false_and]
  · rw [if_pos (by omega), decide_eq_false h1, Bool.false_and]
theorem validR_2 {r : Rx} (h : r.kind = 2) : validR r = (decide (r.kids.length = 0) && setOk r.syms) := by
  rw [validR_eq, if_neg (by omega), if_pos h, Bool.and_comm]
theorem validR_5 {r : Rx} (h : r.kind = 5) : validR r = (decide (r.syms.length = 0) && (decide (r.kids.length = 1) && validR (r.kids.getD 0 default))) := by
  rw [validR_eq, if_neg (by omega), if_neg (by omega)]
  by_cases h1 : r.syms.length = 0 <;> by_cases h2 : r.kids.length = 1
  · rw [if_neg (by omega), decide_eq_true h1, decide_eq_true h2, validRs_all]
    obtain ⟨x, hx⟩ := List.length_eq_one_iff.1 h2
    rw [hx]; simp
  · rw [if_pos (by omega), decide_eq_false h2, Bool.false_and, Bool.and_false]
  · rw [if_pos (by omega), decide_eq_false h1, Bool.false_and]
  · rw [if_pos (by omega), decide_eq_false h1, Bool.false_and]
theorem validR_34 {r : Rx} (h : r.kind = 3 ∨ r.kind = 4) : validR r = (decide (r.syms.length = 0) && !(r.kids.any fun x => !validR x)) := by
  rw [validR_eq, if_neg (by omega), if_neg (by omega)]
  by_cases h1 : r.syms.length = 0
  · rw [if_neg (by omega), decide_eq_true h1, validRs_all, all_not_any, Bool.true_and]
  · rw [if_pos (by omega), decide_eq_false h1, Bool.false_and]
theorem validR_no {r : Rx} (h : r.kind < 0 ∨ 5 < r.kind) : validR r = false := by rw [validR_eq, if_pos h]
end Go.Wb

namespace Go.Wd
set_option linter.unusedVariables false
open Go.Am
theorem rep_mapI (n : Nat) : List.replicate n (AV.sc (.int .i64 0)) = (List.replicate n (0 : Int)).map int := by rw [List.map_replicate]
section
variable {K : Type} [DecidableEq K] (next : K → Nat → K) (size : Nat)
def rI (x : K) (l : List K) (s : Nat) : List Int := (List.range s).map fun t => ((idx (grow next x l s) (next x t) : Nat) : Int)
def rB (x : K) (l : List K) (s : Nat) : List Int := rI next x l s ++ List.replicate (size - s) 0
def rowsX (l m : List K) : List (List Int) := m.map fun x => (List.range size).map fun s => ((idx l (next x s) : Nat) : Int)
def finX {K : Type} (final : K → Bool) (m : List K) : List Bool := m.map final
structure Ex (U : List K) (start : K) (N : Nat) (l : List K) (i : Nat) : Prop where
  met : Met next size U l i
  reach : Go.Wd.reach next size N start = clos next size (N + 1 - i) i l
  head : [start] <+: l
end
section
variable {K : Type} [DecidableEq K] {next : K → Nat → K} {size : Nat} {final : K → Bool} {x : K} {l : List K} {U : List K} {start : K} {N i : Nat}
theorem rI_succ (s : Nat) : rI next x l (s + 1) = rI next x l s ++ [((idx (grow next x l (s + 1)) (next x s) : Nat) : Int)] := by
  unfold rI
  rw [List.range_succ, List.map_append]
  congr 1
  refine List.map_congr_left fun t ht => ?_
  have ht := List.mem_range.1 ht
  have hm : next x t ∈ grow next x l s := (grow_mem x l s).2 (.inr ⟨t, ht, rfl⟩)
  rw [idx_pre (m := grow next x l (s + 1)) (addK_pre (grow next x l s) (next x s)) hm]
theorem rI_len (s : Nat) : (rI next x l s).length = s := by unfold rI; simp
theorem rB_len {s : Nat} (hs : s ≤ size) : (rB next size x l s).length = size := by unfold rB; rw [List.length_append, rI_len, List.length_replicate]; omega
theorem rB_zero : rB next size x l 0 = List.replicate size 0 := by unfold rB rI; simp
theorem rB_all : rB next size x l size = (List.range size).map fun t => ((idx (grow next x l size) (next x t) : Nat) : Int) := by unfold rB rI; simp
theorem rB_set {s : Nat} (hs : s < size) : ((rB next size x l s).map int).set s (natI (idx (grow next x l (s + 1)) (next x s))) = (rB next size x l (s + 1)).map int := by
  rw [← List.map_set]
  congr 1
  unfold rB
  rw [List.set_append_right _ _ (by rw [rI_len]; exact Nat.le_refl _), rI_len, Nat.sub_self, show size - s = (size - (s + 1)) + 1 by omega, List.replicate_succ, List.set_cons_zero, rI_succ]
  simp
theorem grow_old {s : Nat} (h : next x s ∈ grow next x l s) : grow next x l (s + 1) = grow next x l s := by rw [grow]; unfold addK; rw [if_pos h]
theorem grow_new {s : Nat} (h : next x s ∉ grow next x l s) : grow next x l (s + 1) = grow next x l s ++ [next x s] := by rw [grow]; unfold addK; rw [if_neg h]
theorem grow_at [Inhabited K] (s : Nat) (hi : i < l.length) : (grow next x l s).getD i default = l.getD i default := by
  obtain ⟨r, e⟩ := grow_pre (next := next) x l s
  rw [← e, List.getD_eq_getElem?_getD, List.getElem?_append_left hi, ← List.getD_eq_getElem?_getD]
theorem grow_len (s : Nat) : l.length ≤ (grow next x l s).length := (grow_pre (next := next) x l s).length_le
theorem grow_sub (h : Met next size U l i) (hU : ∀ x ∈ U, ∀ s, s < size → next x s ∈ U) (hx : x ∈ U) {s : Nat} (hs : s ≤ size) : ∀ y ∈ grow next x l s, y ∈ U := fun y hy => by
  rcases (grow_mem x l s).1 hy with q | ⟨t, ht, e⟩
  · exact h.sub y q
  · rw [e]; exact hU x hx t (by omega)
theorem grow_lt (h : Met next size U l i) (hU : ∀ x ∈ U, ∀ s, s < size → next x s ∈ U) (hx : x ∈ U) {s : Nat} (hs : s < size) (hn : next x s ∉ grow next x l s) : (grow next x l s).length < U.length := by
  have h1 := grow_nodup (next := next) x h.nodup (s + 1)
  have h2 := nodup_len h1 (grow_sub h hU hx (s := s + 1) (by omega))
  rw [grow_new hn, List.length_append] at h2
  simp only [List.length_cons, List.length_nil] at h2
  omega
theorem grow_le (h : Met next size U l i) (hU : ∀ x ∈ U, ∀ s, s < size → next x s ∈ U) (hx : x ∈ U) {s : Nat} (hs : s ≤ size) : (grow next x l s).length ≤ U.length :=
  nodup_len (grow_nodup (next := next) x h.nodup s) (grow_sub h hU hx hs)
theorem rows_len (l m : List K) : (rowsX next size l m).length = m.length := by unfold rowsX; rw [List.length_map]
theorem fin_len {K : Type} {final : K → Bool} (m : List K) : (finX final m).length = m.length := by unfold finX; rw [List.length_map]
theorem take_grow [Inhabited K] (s : Nat) (hi : i < l.length) : (grow next x l s).take (i + 1) = l.take i ++ [l.getD i default] := by
  obtain ⟨r, e⟩ := grow_pre (next := next) x l s
  rw [← e, List.take_append_of_le_length (by omega), List.take_add_one, List.getElem?_eq_getElem hi, el_get hi]; rfl
theorem rows_step [Inhabited K] (h : Met next size U l i) (hi : i < l.length) (hx : x = l.getD i default) : rowsX next size (grow next x l size) ((grow next x l size).take (i + 1)) = rowsX next size l (l.take i) ++ [rB next size x l size] := by
  rw [take_grow _ hi]
  unfold rowsX
  rw [List.map_append, rB_all, ← hx]
  congr 1
  refine List.map_congr_left fun y hy => List.map_congr_left fun s hs => ?_
  obtain ⟨j, hj, e⟩ := List.getElem_of_mem hy
  rw [List.getElem_take] at e
  rw [List.length_take] at hj
  have := h.met j y (by omega) (by rw [List.getElem?_eq_getElem (by omega), e]) s (List.mem_range.1 hs)
  rw [idx_pre (grow_pre x l size) this]
theorem fin_step [Inhabited K] (hi : i < l.length) (hx : x = l.getD i default) : finX final ((grow next x l size).take (i + 1)) = finX final (l.take i) ++ [final x] := by
  rw [take_grow _ hi]
  unfold finX
  rw [List.map_append, ← hx]; rfl
theorem ex_start (h0 : start ∈ U) : Ex next size U start N [start] 0 := ⟨⟨by simp, Nat.zero_le _, fun x hx => by rw [List.mem_singleton.1 hx]; exact h0, fun j x hj => absurd hj (Nat.not_lt_zero j)⟩, rfl, List.prefix_refl _⟩
theorem Ex.le (h : Ex next size U start N l i) : i ≤ l.length ∧ l.length ≤ U.length := ⟨h.met.le, nodup_len h.met.nodup h.met.sub⟩
theorem Ex.step [Inhabited K] (h : Ex next size U start N l i) (hU : ∀ x ∈ U, ∀ s, s < size → next x s ∈ U) (hN : U.length ≤ N) (hi : i < l.length) (hx : x = l.getD i default) : Ex next size U start N (grow next x l size) (i + 1) := by
  have hg : l[i]? = some x := by rw [List.getElem?_eq_getElem hi, hx, el_get hi]
  have hl := h.le
  refine ⟨h.met.step hU hg, ?_, h.head.trans (grow_pre x l size)⟩
  rw [h.reach, show N + 1 - i = (N + 1 - (i + 1)) + 1 by omega, clos_some hg]
theorem Ex.fin (h : Ex next size U start N l i) (hi : l.length ≤ i) : Go.Wd.reach next size N start = l := by
  rw [h.reach]
  have hn : l[i]? = none := List.getElem?_eq_none hi
  cases hf : N + 1 - i with
  | zero => rfl
  | succ f => exact clos_none hn
/-! maps from what is reached to numbers -/
variable {kv : K → Value}
theorem look_x (hk : ∀ a b, kv a = kv b → a = b) (l : List K) (k : K) : mlook (int 0) (l.map kv) (vsC l.length) (kv k) = natI (if k ∈ l then idx l k else 0) := by
  by_cases q : k ∈ l
  · rw [if_pos q, mlook_map (fun b _ e => hk b k e) q]; rfl
  · rw [if_neg q, mlook_not (fun b _ e => hk b k e) q]; rfl
theorem has_x (hk : ∀ a b, kv a = kv b → a = b) (l : List K) (k : K) : mhas (l.map kv) (kv k) = decide (k ∈ l) := (mhas_map fun b _ e => hk b k e).trans (decide_eq_decide.2 Iff.rfl)
theorem put_kx (hk : ∀ a b, kv a = kv b → a = b) {l : List K} {k : K} (q : k ∉ l) : putK (l.map kv) (kv k) = (l ++ [k]).map kv := putK_map (fun b _ e => hk b k e) q
theorem put_vx (hk : ∀ a b, kv a = kv b → a = b) {l : List K} {k : K} (q : k ∉ l) : putV (l.map kv) (vsC l.length) (kv k) (natI l.length) = vsC (l ++ [k]).length := by
  rw [putV_map (fun b _ e => hk b k e) q, vs_snoc, List.length_append]; rfl
omit [DecidableEq K] in
theorem put_k0 (k : K) : putK [] (kv k) = [k].map kv := by unfold putK kpos; rfl
omit [DecidableEq K] in
theorem put_v0 (k : K) : putV [] [] (kv k) (int 0) = vsC [k].length := by unfold putV kpos; rfl
theorem idx_new {l : List K} {k : K} (q : k ∉ l) : idx (l ++ [k]) k = l.length := idx_snoc q
end
def kvN (n : Nat) : Value := .int .i64 (n : Int)
theorem kvN_inj (a b : Nat) (h : kvN a = kvN b) : a = b := by unfold kvN at h; injection h with _ h; omega
def kvP (x : Nat × Nat) : Value := .agg #[.int .i64 (x.1 : Int), .int .i64 (x.2 : Int)]
abbrev pairI (x : Nat × Nat) : AV := .agg [natI x.1, natI x.2]
theorem kvP_inj (a b : Nat × Nat) (h : kvP a = kvP b) : a = b := by
  unfold kvP at h
  injection h with h
  have h := congrArg Array.toList h
  simp only [List.cons.injEq, Value.int.injEq, true_and, and_true] at h
  exact Prod.ext (by omega) (by omega)
end Go.Wd

