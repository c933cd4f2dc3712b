/-
  Plain functions: the expressions made of numbers are valid and small; derivatives are small.
-/
import Derived.Test.YtgdehkimfmfofaaGreatJ19
import Derived.Lib.Join
import Derived.Test.YtgdehkimfmfofaaGreatJ16
set_option linter.unusedVariables false
set_option linter.unusedSimpArgs false
namespace Go.Wb
set_option linter.unusedVariables false
open Go.Am Go.Wc
def joinB (l : List (List UInt8)) : List UInt8 := Lib.join l [124]
theorem join_len : ∀ {l : List (List UInt8)} {n : Nat}, (∀ x ∈ l, x.length ≤ n) → (joinB l).length ≤ l.length * (n + 1)
  | [], n, _ => Nat.zero_le _
  | [x], n, h => by
    have := h x List.mem_cons_self
    show (List.intercalate [124] [x]).length ≤ _
    simp [List.intercalate]; omega
  | x :: y :: l, n, h => by
    have h1 := h x List.mem_cons_self
    have h2 := join_len (l := y :: l) fun z hz => h z (List.mem_cons_of_mem _ hz)
    have e : joinB (x :: y :: l) = x ++ [124] ++ joinB (y :: l) := by
      unfold joinB Lib.join List.intercalate; simp [List.intersperse]
    rw [e, List.length_append, List.length_append, List.length_cons (a := x), Nat.add_mul, List.length_singleton]
    omega
def letterT (a : List Letter) (n : Int) : List UInt8 := if n = 63 then [45] else if n = 62 then [35] else (a.getD n.toNat default).text
def bareR (a : List Letter) (r : Rx) : Int := if r.kind = 2 ∧ r.syms.length = 1 ∧ r.syms.getD 0 default < a.length then r.syms.getD 0 default else -1
def setT (a : List Letter) (s : List Int) : List UInt8 :=
  if s.length = a.length ∧ 1 < a.length ∧ s.getD (a.length - 1) default = (a.length : Int) - 1 then [46]
  else if s.length = 1 then letterT a (s.getD 0 default) else [40] ++ joinB (s.map (letterT a)) ++ [41]
def partT (r : Rx) (rep : Bool) (t : List UInt8) : List UInt8 := if r.kind = 4 ∨ (r.kind = 3 ∧ rep = true) then [40] ++ t ++ [41] else t
def longR (a : List Letter) (last : Int) : Bool := decide (0 ≤ last) && a.any fun y => decide ((a.getD last.toNat default).text.length < y.text.length) && preB y.text (a.getD last.toNat default).text
def pieceT (a : List Letter) (last : Int) (x : Rx) (t t0 : List UInt8) : List UInt8 :=
  if longR a last = true ∧ 0 ≤ bareR a x then [40] ++ t ++ [41]
  else if longR a last = true ∧ x.kind = 5 ∧ 0 ≤ bareR a (x.kids.getD 0 default) then [40] ++ t0 ++ [41, 42]
  else partT x false t
mutual
def textR (a : List Letter) : Rx → List UInt8
  | .mk k s l => if k = 0 then [123, 125] else if k = 1 then [] else if k = 2 then setT a s else if k = 4 then joinB (textRs a l)
      else if k = 5 then partT (l.getD 0 default) true ((textRs a l).getD 0 default) ++ [42] else textQ a (-1) l
def textRs (a : List Letter) : List Rx → List (List UInt8)
  | [] => []
  | x :: l => textR a x :: textRs a l
def textQ (a : List Letter) (last : Int) : List Rx → List UInt8
  | [] => []
  | .mk k s l :: q => pieceT a last (.mk k s l) (textR a (.mk k s l)) ((textRs a l).getD 0 default) ++ textQ a (bareR a (.mk k s l)) q
end
theorem textRs_map (a : List Letter) : ∀ l : List Rx, textRs a l = l.map (textR a)
  | [] => by rw [textRs]; rfl
  | x :: l => by rw [textRs, textRs_map a l]; rfl
theorem textQ_cons (a : List Letter) (last : Int) (x : Rx) (q : List Rx) : textQ a last (x :: q) = pieceT a last x (textR a x) ((x.kids.map (textR a)).getD 0 default) ++ textQ a (bareR a x) q := by
  cases x with | mk k s l => rw [textQ, textRs_map]; rfl
theorem textR_eq (a : List Letter) (r : Rx) : textR a r = if r.kind = 0 then [123, 125] else if r.kind = 1 then [] else if r.kind = 2 then setT a r.syms else if r.kind = 4 then joinB (r.kids.map (textR a))
      else if r.kind = 5 then partT (r.kids.getD 0 default) true ((r.kids.map (textR a)).getD 0 default) ++ [42] else textQ a (-1) r.kids := by
  cases r with | mk k s l => rw [textR, textRs_map]; rfl
theorem textR_0 {a : List Letter} {r : Rx} (h : r.kind = 0) : textR a r = [123, 125] := by rw [textR_eq, if_pos h]
theorem textR_1 {a : List Letter} {r : Rx} (h : r.kind = 1) : textR a r = [] := by rw [textR_eq, if_neg (by omega), if_pos h]
theorem textR_2 {a : List Letter} {r : Rx} (h : r.kind = 2) : textR a r = setT a r.syms := by rw [textR_eq, if_neg (by omega), if_neg (by omega), if_pos h]
theorem textR_4 {a : List Letter} {r : Rx} (h : r.kind = 4) : textR a r = joinB (r.kids.map (textR a)) := by rw [textR_eq, if_neg (by omega), if_neg (by omega), if_neg (by omega), if_pos h]
theorem textR_5 {a : List Letter} {r : Rx} (h : r.kind = 5) (h0 : 0 < r.kids.length) : textR a r = partT (r.kids.getD 0 default) true (textR a (r.kids.getD 0 default)) ++ [42] := by
  rw [textR_eq, if_neg (by omega), if_neg (by omega), if_neg (by omega), if_neg (by omega), if_pos h, getD_map h0]
theorem textR_3 {a : List Letter} {r : Rx} (h : r.kind = 3) : textR a r = textQ a (-1) r.kids := by rw [textR_eq, if_neg (by omega), if_neg (by omega), if_neg (by omega), if_neg (by omega), if_neg (by omega)]
def prevB (a : List Letter) (l : List Rx) (i : Nat) : Int := if 0 < i then bareR a (l.getD (i - 1) default) else -1
theorem textQ_step {a : List Letter} {l : List Rx} {i : Nat} (h : i < l.length) : textQ a (prevB a l i) (l.drop i) = pieceT a (prevB a l i) (l.getD i default) (textR a (l.getD i default)) (((l.getD i default).kids.map (textR a)).getD 0 default) ++ textQ a (prevB a l (i + 1)) (l.drop (i + 1)) := by
  rw [drop_cons h, textQ_cons]
  have : prevB a l (i + 1) = bareR a (l.getD i default) := by unfold prevB; rw [if_pos (by omega)]; rfl
  rw [this]
theorem textQ_end {a : List Letter} {l : List Rx} {i : Nat} {z : Int} (h : l.length ≤ i) : textQ a z (l.drop i) = [] := by rw [List.drop_of_length_le h, textQ]
def symK (a : List Letter) (x : Int) : Bool := !(decide ((a.length : Int) ≤ x) && (decide (x ≠ 63) && decide (x ≠ 62)))
mutual
def knownR (a : List Letter) : Rx → Bool
  | .mk k s l => s.all (symK a) && knownRs a l
def knownRs (a : List Letter) : List Rx → Bool
  | [] => true
  | x :: l => knownR a x && knownRs a l
end
theorem knownRs_all (a : List Letter) : ∀ l : List Rx, knownRs a l = l.all (knownR a)
  | [] => by rw [knownRs]; rfl
  | x :: l => by rw [knownRs, knownRs_all a l]; rfl
theorem knownR_eq (a : List Letter) (r : Rx) : knownR a r = (r.syms.all (symK a) && r.kids.all (knownR a)) := by cases r with | mk k s l => rw [knownR, knownRs_all]; rfl
theorem knownR_no {a : List Letter} {r : Rx} {i : Nat} (h : i < r.syms.length) (hn : symK a (r.syms.getD i default) = false) : knownR a r = false := by
  rw [knownR_eq]
  have : r.syms.all (symK a) = false := by rw [List.all_eq_false]; exact ⟨r.syms.getD i default, by rw [getD_el h]; exact List.getElem_mem h, by rw [hn]; decide⟩
  rw [this]; rfl
theorem knownR_yes {a : List Letter} {r : Rx} (h : ∀ i, i < r.syms.length → symK a (r.syms.getD i default) = true) : knownR a r = !(r.kids.any fun x => !knownR a x) := by
  rw [knownR_eq]
  have : r.syms.all (symK a) = true := by
    rw [List.all_eq_true]; intro x hx
    obtain ⟨j, hj, e⟩ := List.getElem_of_mem hx
    have := h j hj; rwa [getD_el hj, e] at this
  rw [this, Bool.true_and, all_not_any]
def printP (a : List Letter) (r : Rx) : List UInt8 := if validR r = true ∧ validA a = true ∧ knownR a (simR r) = true then textR a (simR r) else []
theorem piece_1 {a : List Letter} {last : Int} {x : Rx} {t t0 : List UInt8} (h : longR a last = true) (hb : 0 ≤ bareR a x) : pieceT a last x t t0 = [40] ++ t ++ [41] := if_pos ⟨h, hb⟩
theorem piece_2 {a : List Letter} {last : Int} {x : Rx} {t t0 : List UInt8} (h : longR a last = true) (hb : ¬ 0 ≤ bareR a x) (hk : x.kind = 5) (h0 : 0 ≤ bareR a (x.kids.getD 0 default)) : pieceT a last x t t0 = [40] ++ t0 ++ [41, 42] := by
  unfold pieceT; rw [if_neg (fun q => hb q.2), if_pos ⟨h, hk, h0⟩]
theorem piece_3 {a : List Letter} {last : Int} {x : Rx} {t t0 : List UInt8} (h : ¬ (longR a last = true ∧ 0 ≤ bareR a x)) (h2 : ¬ (longR a last = true ∧ x.kind = 5 ∧ 0 ≤ bareR a (x.kids.getD 0 default))) : pieceT a last x t t0 = partT x false t := by
  unfold pieceT; rw [if_neg h, if_neg h2]
theorem long_no {a : List Letter} {last : Int} (h : ¬ 0 ≤ last) : longR a last = false := by unfold longR; rw [decide_eq_false h]; rfl
theorem long_is {a : List Letter} {last : Int} (h : 0 ≤ last) : longR a last = a.any fun y => decide ((a.getD last.toNat default).text.length < y.text.length) && preB y.text (a.getD last.toNat default).text := by unfold longR; rw [decide_eq_true h]; rfl
theorem bare_range {a : List Letter} {r : Rx} (h : Nf r) : -1 ≤ bareR a r ∧ bareR a r < a.length := by
  unfold bareR
  split
  · next hc =>
    have h1 := (h.k2 hc.1).2
    have h2 := (setOk_iff.1 h1).2.2 (r.syms.getD 0 default) (by rw [getD_el (by omega)]; exact List.getElem_mem (by omega))
    exact ⟨by omega, hc.2.2⟩
  · omega
theorem prev_range {a : List Letter} {l : List Rx} {i : Nat} (h : ∀ x ∈ l, Nf x) (hi : i < l.length) : -1 ≤ prevB a l i ∧ prevB a l i < a.length := by
  unfold prevB
  split
  · exact bare_range (h _ (kid_mem (by omega)))
  · omega
theorem letter_len {a : List Letter} (h : ∀ x ∈ a, x.text.length ≤ 4) (n : Int) : (letterT a n).length ≤ 4 := by
  unfold letterT
  split
  · decide
  · split
    · decide
    · rw [List.getD_eq_getElem?_getD]
      cases hk : a[n.toNat]? with
      | none => exact Nat.zero_le _
      | some x => exact h x (List.mem_of_getElem? hk)
theorem joins_len {f : Rx → List UInt8} : ∀ l : List Rx, (∀ x ∈ l, (f x).length + 3 ≤ 8 * x.size) → (joinB (l.map f)).length ≤ 8 * Rx.sizes l
  | [], _ => Nat.zero_le _
  | [x], h => by
    have := h x List.mem_cons_self
    rw [Rx.sizes]
    show (List.intercalate [124] [f x]).length ≤ _
    simp [List.intercalate]; omega
  | x :: y :: l, h => by
    have h1 := h x List.mem_cons_self
    have h2 := joins_len (f := f) (y :: l) fun z hz => h z (List.mem_cons_of_mem _ hz)
    have e : joinB ((x :: y :: l).map f) = f x ++ [124] ++ joinB ((y :: l).map f) := by
      unfold joinB Lib.join List.intercalate; simp [List.intersperse]
    rw [e, List.length_append, List.length_append, List.length_singleton, Rx.sizes]
    omega
theorem part_len (x : Rx) (b : Bool) (t : List UInt8) : (partT x b t).length ≤ t.length + 2 := by
  unfold partT; split
  · simp; try omega
  · omega
theorem piece_len {a : List Letter} {last : Int} {x : Rx} {t t0 : List UInt8} {n : Nat} (h : t.length + 3 ≤ n) (h0 : t0.length + 3 ≤ n) : (pieceT a last x t t0).length ≤ n := by
  have := part_len x false t
  unfold pieceT; split
  · simp; try omega
  · split
    · simp; first | done | omega
    · omega
theorem textQ_len {a : List Letter} : ∀ (l : List Rx) (last : Int), (∀ x ∈ l, (textR a x).length + 3 ≤ 8 * x.size) → (∀ x ∈ l, ∀ y ∈ x.kids, (textR a y).length + 3 ≤ 8 * y.size) → (textQ a last l).length ≤ 8 * Rx.sizes l
  | [], _, _, _ => by rw [textQ]; exact Nat.zero_le _
  | x :: l, last, h, h2 => by
    have h3 := textQ_len l (bareR a x) (fun y hy => h y (List.mem_cons_of_mem _ hy)) fun y hy => h2 y (List.mem_cons_of_mem _ hy)
    have h4 := h x List.mem_cons_self
    have h5 : ((x.kids.map (textR a)).getD 0 default).length + 3 ≤ 8 * x.size := by
      by_cases h0 : 0 < x.kids.length
      · rw [getD_map h0]
        have := h2 x List.mem_cons_self _ (kid_mem h0)
        have := kid_lt h0
        omega
      · rw [List.eq_nil_of_length_eq_zero (l := x.kids) (by omega)]
        have := size_pos x
        show 0 + 3 ≤ _; omega
    have h6 := piece_len (a := a) (last := last) (x := x) h4 h5
    rw [textQ_cons, List.length_append, Rx.sizes]; omega
theorem text_len {a : List Letter} (ha : ∀ x ∈ a, x.text.length ≤ 4) (r : Rx) : (textR a r).length + 3 ≤ 8 * r.size := by
  have : ∀ n (r : Rx), r.size ≤ n → (textR a r).length + 3 ≤ 8 * r.size := by
    intro n
    induction n with
    | zero => intro r hr; have := size_pos r; omega
    | succ n ih =>
      intro r hr
      have hk : ∀ x ∈ r.kids, (textR a x).length + 3 ≤ 8 * x.size := fun x hx => ih x (by have := size_kid hx; omega)
      have hkk : ∀ x ∈ r.kids, ∀ y ∈ x.kids, (textR a y).length + 3 ≤ 8 * y.size := fun x hx y hy => ih y (by have := size_kid hx; have := size_kid hy; omega)
      have hs := size_eq r
      have hp := size_pos r
      rw [textR_eq]
      split
      · show 2 + 3 ≤ _; omega
      · split
        · show 0 + 3 ≤ _; omega
        · split
          · unfold setT
            split
            · show 1 + 3 ≤ _; omega
            · split
              · have := letter_len ha (r.syms.getD 0 default); omega
              · have h1 := join_len (l := r.syms.map (letterT a)) (n := 4) fun x hx => by
                  obtain ⟨y, _, rfl⟩ := List.mem_map.1 hx; exact letter_len ha y
                rw [List.length_map] at h1
                simp only [List.length_append, List.length_cons, List.length_nil]
                omega
          · split
            · have := joins_len r.kids hk; omega
            · split
              · have h1 := part_len (r.kids.getD 0 default) true ((r.kids.map (textR a)).getD 0 default)
                rw [List.length_append]
                by_cases h0 : 0 < r.kids.length
                · rw [getD_map h0] at h1 ⊢
                  have := hk _ (kid_mem h0)
                  have := size_mem (kid_mem h0)
                  simp only [List.length_cons, List.length_nil]; omega
                · rw [List.eq_nil_of_length_eq_zero (l := r.kids) (by omega)] at h1 ⊢
                  have e : ((List.map (textR a) []).getD 0 default).length = 0 := rfl
                  simp only [List.length_cons, List.length_nil]; omega
              · have := textQ_len r.kids (-1) hk hkk; omega
  exact this _ r (Nat.le_refl _)
theorem nf_kids {r : Rx} (h : Nf r) : ∀ x ∈ r.kids, Nf x := by
  cases h with
  | seq h1 h2 h3 => exact fun x hx => h2 x hx
  | alt h1 h2 h3 h4 h5 h6 => exact fun x hx => h2 x hx
  | @star y h1 h2 h3 =>
    intro x hx
    have e : x = y := List.mem_singleton.1 hx
    rw [e]; exact h1
  | _ => exact fun x hx => by cases hx
theorem nf_syms {a : List Letter} {r : Rx} (h : Nf r) (hk : knownR a r = true) : ∀ z ∈ r.syms, 0 ≤ z ∧ (z < a.length ∨ z = 63 ∨ z = 62) := by
  intro z hz
  rw [knownR_eq, Bool.and_eq_true, List.all_eq_true] at hk
  have h1 := hk.1 z hz
  have h2 : 0 ≤ z := by
    cases h with
    | set h => exact ((setOk_iff.1 h).2.2 z hz).1
    | _ => cases hz
  refine ⟨h2, ?_⟩
  unfold symK at h1
  rw [Bool.not_eq_true', Bool.and_eq_false_iff, Bool.and_eq_false_iff] at h1
  simp only [decide_eq_false_iff_not] at h1
  omega
theorem known_kids {a : List Letter} {r : Rx} (hk : knownR a r = true) : ∀ x ∈ r.kids, knownR a x = true := by
  rw [knownR_eq, Bool.and_eq_true, List.all_eq_true, List.all_eq_true] at hk; exact hk.2
theorem setT_dot {a : List Letter} {s : List Int} (h : s.length = a.length) (h1 : 1 < a.length) (h2 : s.getD (a.length - 1) default = (a.length : Int) - 1) : setT a s = [46] := if_pos ⟨h, h1, h2⟩
theorem setT_one {a : List Letter} {s : List Int} (h : ¬ (s.length = a.length ∧ 1 < a.length ∧ s.getD (a.length - 1) default = (a.length : Int) - 1)) (h1 : s.length = 1) : setT a s = letterT a (s.getD 0 default) := by unfold setT; rw [if_neg h, if_pos h1]
theorem setT_many {a : List Letter} {s : List Int} (h : ¬ (s.length = a.length ∧ 1 < a.length ∧ s.getD (a.length - 1) default = (a.length : Int) - 1)) (h1 : ¬ s.length = 1) : setT a s = [40] ++ joinB (s.map (letterT a)) ++ [41] := by unfold setT; rw [if_neg h, if_neg h1]
theorem validA_txt {a : List Letter} (h : validA a = true) : ∀ x ∈ a, x.text.length ≤ 4 := by
  intro x hx
  obtain ⟨j, hj, e⟩ := List.getElem_of_mem hx
  have h1 := ((of_decide_eq_true (p := validP a) h).2 j hj).1.1
  rw [getD_el hj, e] at h1
  unfold plainT at h1
  rw [Bool.and_eq_true, Bool.and_eq_true, decide_eq_true_eq, decide_eq_true_eq] at h1
  exact h1.2
end Go.Wb

namespace Go.Wb
set_option linter.unusedVariables false
open Go.Am Go.Wc
set_option maxRecDepth 100000
def abcL : List Letter := [⟨[97], 0, 0, 0, 1⟩, ⟨[98], 1, 0, 0, 1⟩, ⟨[99], 2, 0, 0, 1⟩]
def restL : Rx := .mk 5 [] [.mk 2 [1, 2] []]
def xL : Rx := .mk 3 [] [.mk 2 [0] [], restL]
def zL : Rx := .mk 3 [] [restL, .mk 2 [0] []]
theorem liv1 : parseP abcL [] [97, 40, 98, 124, 99, 41, 42] = (xL, -1) := by kernel_rfl
theorem liv2 : (parseP abcL [] [97, 41]).2 = 1 := by kernel_rfl
theorem liv3 : (parseP abcL [] [40, 97]).2 = 2 := by kernel_rfl
theorem liv4 : (parseP abcL [] [97, 42, 98, 124, 42]).2 = 4 := by kernel_rfl
theorem liv5 : printP abcL xL = [97, 40, 98, 124, 99, 41, 42] := by kernel_rfl
theorem liv6 : dR 0 (simR xL) = restL := by kernel_rfl
theorem liv7 : dR 1 (simR xL) = noneRx := by kernel_rfl
theorem liv8 : simR (.mk 4 [] [emptyRx, restL]) = restL := by kernel_rfl
theorem liv9 : revR xL = zL := by kernel_rfl
theorem liv10 : matchR xL [0, 1, 2, 1] = true := by kernel_rfl
theorem liv11 : matchR xL [1] = false := by kernel_rfl
theorem liv12 : validR xL = true := by kernel_rfl
end Go.Wb

namespace Go.Wb
set_option linter.unusedVariables false
open Go.Am
def rvR (x : Rx) : Rx := buildR true x
structure RvOk (x : Rx) : Prop where
  nf : Nf x
  kind : (rvR x).kind = x.kind
  acc : accR (rvR x) = accR x
  rnf : Nf (rvR x)
  inv : rvR (rvR x) = x
  kids : x.kind = 4 → ∀ y ∈ (rvR x).kids, ∃ z ∈ x.kids, y.kind = z.kind
  kids' : x.kind = 4 → ∀ z ∈ x.kids, ∃ y ∈ (rvR x).kids, z.kind = y.kind
theorem RvOk.rv {x : Rx} (h : RvOk x) : RvOk (rvR x) := by
  refine ⟨h.rnf, by rw [h.inv, h.kind], by rw [h.inv, h.acc], by rw [h.inv]; exact h.nf, by rw [h.inv], fun h4 y hy => ?_, fun h4 y hy => ?_⟩
  · rw [h.inv] at hy
    exact h.kids' (by rw [← h.kind]; exact h4) y hy
  · rw [h.inv]
    exact h.kids (by rw [← h.kind]; exact h4) y hy
structure AltOk (l : List Rx) : Prop where
  len : 2 ≤ l.length
  rv : ∀ x ∈ l, RvOk x
  kinds : ∀ x ∈ l, x.kind ≠ 0 ∧ x.kind ≠ 4
  srt : Srt leR l
  two : ∀ x ∈ l, ∀ y ∈ l, x.kind = 2 → y.kind = 2 → x = y
  acc : ∀ x ∈ l, x.kind = 1 → ∀ y ∈ l, y.kind ≠ 1 → accR y = false
theorem AltOk.nf {l : List Rx} (h : AltOk l) : Nf (.mk 4 [] l) := .alt h.len (fun x hx => (h.rv x hx).nf) h.kinds h.srt h.two h.acc
end Go.Wb

namespace Go.Wb
set_option linter.unusedVariables false
open Go.Am
theorem altC_mem {D : List Rx} (hs : Srt leR D) (hn : ∀ x ∈ D, Nf x ∧ x.kind ≠ 0) {x : Rx} : x ∈ altC D ↔ x ∈ D ∧ ¬ (x.kind = 1 ∧ ∃ y ∈ D, y.kind ≠ 1 ∧ accR y = true) := by
  by_cases h : 1 < D.length ∧ (D.getD 0 default).kind = 1 ∧ (D.drop 1).any accR = true
  · rw [altC_t h.1 h.2.1 h.2.2]
    have h0 : D.getD 0 default ∈ D := kid_mem (by omega)
    constructor
    · intro hx
      have hd := srt_drop hs hx
      exact ⟨hd.2, fun q => hd.1 (empty_first hs hn hd.2 q.1).symm⟩
    · rintro ⟨hx, hq⟩
      refine mem_drop1 hx fun e => hq ⟨by rw [e]; exact h.2.1, ?_⟩
      obtain ⟨y, hy, ha⟩ := List.any_eq_true.1 h.2.2
      have hd := srt_drop hs hy
      exact ⟨y, hd.2, fun q => hd.1 (empty_first hs hn hd.2 q).symm, ha⟩
  · rw [altC_f h]
    refine ⟨fun hx => ⟨hx, ?_⟩, fun q => q.1⟩
    rintro ⟨hk, y, hy, hy1, ha⟩
    have e := empty_first hs hn hx hk
    have hy2 : y ∈ D.drop 1 := mem_drop1 hy fun q => hy1 (by rw [q, e]; exact hk)
    refine h ⟨?_, by rw [e]; exact hk, List.any_eq_true.2 ⟨y, hy2, ha⟩⟩
    have := List.length_pos_of_mem hy2
    rw [List.length_drop] at this; omega
end Go.Wb

namespace Go.Wb
set_option linter.unusedVariables false
open Go.Am Go.Wc
theorem valid_one {v : Int} (h : 0 ≤ v ∧ v < 64) : validR (.mk 2 [v] []) = true := nf_valid (.set (sing_ok h))
theorem valid_two {v w : Int} (h : 0 ≤ v ∧ v < w ∧ w < 64) : validR (.mk 2 [v, w] []) = true := by
  refine nf_valid (.set (setOk_iff.2 ⟨Nat.succ_pos _, ?_, fun x hx => ?_⟩))
  · exact List.pairwise_cons.2 ⟨fun y hy => by rw [List.mem_singleton.1 hy]; exact ⟨decide_eq_true (by omega), by omega⟩, List.pairwise_singleton _ _⟩
  · rcases List.mem_cons.1 hx with rfl | hx
    · omega
    · rw [List.mem_singleton.1 hx]; omega
theorem valid_star {x : Rx} (h : validR x = true) : validR (.mk 5 [] [x]) = true := by
  rw [validR_5 rfl]
  show (true && (true && validR x)) = true
  rw [h]; rfl
theorem valid_pair {k : Int} {x y : Rx} (hk : k = 3 ∨ k = 4) (hx : validR x = true) (hy : validR y = true) : validR (.mk k [] [x, y]) = true := by
  rw [validR_34 (r := .mk k [] [x, y]) hk]
  show (true && !(List.any [x, y] fun x => !validR x)) = true
  simp [hx, hy]
theorem valid_leaf {k : Int} (hk : k = 0 ∨ k = 1) : validR (.mk k [] []) = true := by rw [validR_01 (r := .mk k [] []) hk]; rfl
theorem shpF_valid {most n : Int} {st : List Rx} (hm : 0 < most ∧ most ≤ 64) (hn : 0 ≤ n) (h : ∀ x ∈ st, validR x = true) : ∀ x ∈ shpF most n st, validR x = true := by
  have a1 := Int.emod_nonneg (n / 8) (show most ≠ 0 by omega)
  have a2 := Int.emod_lt_of_pos (n / 8) hm.1
  have b1 := Int.emod_nonneg (n / 8 / most) (show most ≠ 0 by omega)
  have b2 := Int.emod_lt_of_pos (n / 8 / most) hm.1
  have hg : ∀ i, i < st.length → validR (st.getD i default) = true := fun i hi => h _ (kid_mem hi)
  have happ : ∀ y, validR y = true → ∀ x ∈ st ++ [y], validR x = true := fun y hy x hx => by
    rcases List.mem_append.1 hx with hx | hx
    · exact h x hx
    · rw [List.mem_singleton.1 hx]; exact hy
  have hset : ∀ i y, validR y = true → ∀ x ∈ st.set i y, validR x = true := fun i y hy x hx => by
    rcases List.mem_or_eq_of_mem_set hx with hx | hx
    · exact h x hx
    · rw [hx]; exact hy
  unfold shpF
  split
  · exact happ _ (valid_one (by omega))
  · split
    · refine happ _ ?_
      split
      · exact valid_one (by omega)
      · refine valid_two ?_
        unfold minI maxI
        split <;> split <;> omega
    · split
      · next hc => exact hset _ _ (valid_star (hg _ (by omega)))
      · split
        · next hc => exact fun x hx => hset _ _ (valid_pair (.inl rfl) (hg _ (by omega)) (hg _ (by omega))) x (List.mem_of_mem_take hx)
        · split
          · next hc => exact fun x hx => hset _ _ (valid_pair (.inr rfl) (hg _ (by omega)) (hg _ (by omega))) x (List.mem_of_mem_take hx)
          · split
            · next hc => exact hset _ _ (valid_pair (.inr rfl) (valid_leaf (.inr rfl)) (hg _ (by omega)))
            · split
              · refine happ _ (valid_leaf ?_)
                unfold minI
                split <;> omega
              · exact h
theorem sizes_set : ∀ {l : List Rx} {k : Nat} {y : Rx}, k < l.length → Rx.sizes (l.set k y) + (l.getD k default).size = Rx.sizes l + y.size
  | x :: l, 0, y, _ => by
    show Rx.sizes (y :: l) + x.size = _
    rw [Rx.sizes, Rx.sizes]; omega
  | x :: l, k + 1, y, h => by
    have := sizes_set (l := l) (k := k) (y := y) (by simpa using h)
    show Rx.sizes (x :: l.set k y) + (l.getD k default).size = _
    rw [Rx.sizes, Rx.sizes]; omega
theorem sizes_pop {l : List Rx} {k : Nat} (h : k + 1 = l.length) : Rx.sizes (l.take k) + (l.getD k default).size = Rx.sizes l := by
  have h1 := sizes_take_drop l k
  rw [drop_cons (by omega), List.drop_of_length_le (by omega), Rx.sizes, show Rx.sizes [] = 0 from rfl] at h1
  omega
theorem size_two (k : Int) (x y : Rx) : (Rx.mk k [] [x, y]).size = 1 + x.size + y.size := by rw [size_mk, Rx.sizes, Rx.sizes, show Rx.sizes [] = 0 from rfl, List.length_nil]; omega
theorem shpF_size (most n : Int) (st : List Rx) : Rx.sizes (shpF most n st) ≤ Rx.sizes st + 3 := by
  have happ : ∀ y : Rx, y.size ≤ 3 → Rx.sizes (st ++ [y]) ≤ Rx.sizes st + 3 := fun y hy => by
    rw [sizes_append, Rx.sizes, show Rx.sizes [] = 0 from rfl]; omega
  have hset1 : ∀ {k : Nat} {y : Rx}, k < st.length → y.size ≤ (st.getD k default).size + 2 → Rx.sizes (st.set k y) ≤ Rx.sizes st + 3 := fun {k y} hk hy => by
    have := sizes_set (y := y) hk; omega
  have hpop : ∀ (c : Int), 1 < st.length → Rx.sizes ((st.set (st.length - 2) (.mk c [] [st.getD (st.length - 2) default, st.getD (st.length - 1) default])).take (st.length - 1)) ≤ Rx.sizes st + 3 := fun c h => by
    have h1 := sizes_set (l := st) (k := st.length - 2) (y := .mk c [] [st.getD (st.length - 2) default, st.getD (st.length - 1) default]) (by omega)
    rw [size_two] at h1
    have h2 := sizes_pop (l := st.set (st.length - 2) (.mk c [] [st.getD (st.length - 2) default, st.getD (st.length - 1) default])) (k := st.length - 1) (by rw [List.length_set]; omega)
    rw [getD_set_ne' (by omega)] at h2
    omega
  unfold shpF
  split
  · exact happ _ (by rw [size_mk]; simp only [List.length_cons, List.length_nil, Rx.sizes]; omega)
  · split
    · refine happ _ ?_
      split
      · rw [size_mk]; simp only [List.length_cons, List.length_nil, Rx.sizes]; omega
      · rw [size_mk]; simp only [List.length_cons, List.length_nil, Rx.sizes]; omega
    · split
      · next hc => exact hset1 (by omega) (by rw [size_mk, Rx.sizes, show Rx.sizes [] = 0 from rfl, List.length_nil]; omega)
      · split
        · next hc => exact hpop 3 hc.2
        · split
          · next hc => exact hpop 4 hc.2
          · split
            · next hc => exact hset1 (by omega) (by rw [size_two, show (emptyRx).size = 1 from rfl]; omega)
            · split
              · exact happ _ (by rw [size_mk]; simp only [List.length_cons, List.length_nil, Rx.sizes]; omega)
              · omega
theorem shpN_good {most : Int} {l : List Int} (hm : 0 < most ∧ most ≤ 64) : ∀ i, (∀ x ∈ shpN most l i, validR x = true) ∧ Rx.sizes (shpN most l i) ≤ 3 * i
  | 0 => ⟨(fun x hx => by cases hx), Nat.le_refl _⟩
  | i + 1 => by
    obtain ⟨h1, h2⟩ := shpN_good (l := l) hm i
    have h3 := shpF_size most (around (l.getD i default) 1048576) (shpN most l i)
    rw [shpN]
    exact ⟨shpF_valid hm (around_lt (by decide)).1 h1, by omega⟩
theorem shaped_good {most : Int} (l : List Int) (hm : 0 < most ∧ most ≤ 64) : validR (shapedP l most) = true ∧ (shapedP l most).size ≤ 49 := by
  obtain ⟨h1, h2⟩ := shpN_good (l := l) hm (min l.length 16)
  have h3 : min l.length 16 ≤ 16 := Nat.min_le_right _ _
  unfold shapedP shpE
  split
  · exact ⟨h1 _ (kid_mem (by omega)), by have := size_mem (kid_mem (l := shpN most l (min l.length 16)) (i := 0) (by omega)); omega⟩
  · refine ⟨?_, by rw [size_mk, List.length_nil]; omega⟩
    rw [validR_34 (r := .mk 3 [] (shpN most l (min l.length 16))) (.inl rfl)]
    show (true && !(List.any _ _)) = true
    rw [Bool.true_and, Bool.not_eq_true', List.any_eq_false]
    exact fun x hx => by rw [h1 x hx]; decide
theorem dSz_quad (r : Rx) : dSz r ≤ 4 * (r.size * r.size) := by
  refine rx_ind (P := fun r => dSz r ≤ 4 * (r.size * r.size)) (fun r ih => ?_) r
  have sq : ∀ a b : Nat, (a + b) * (a + b) = a * a + 2 * (a * b) + b * b := fun a b => by
    rw [Nat.add_mul, Nat.mul_add, Nat.mul_add, Nat.mul_comm b a]; omega
  have hs : ∀ l : List Rx, (∀ x ∈ l, dSz x ≤ 4 * (x.size * x.size)) → dSzs l ≤ 4 * (Rx.sizes l * Rx.sizes l) := by
    intro l
    induction l with
    | nil => intro _; exact Nat.zero_le _
    | cons x l ihl =>
      intro h
      have h1 := ihl fun y hy => h y (List.mem_cons_of_mem _ hy)
      have h2 := h x List.mem_cons_self
      have h3 := sq x.size (Rx.sizes l)
      rw [dSzs, Rx.sizes]
      omega
  have hq : ∀ l : List Rx, (∀ x ∈ l, dSz x ≤ 4 * (x.size * x.size)) → dSzq l ≤ 4 * (Rx.sizes l * Rx.sizes l) + 2 * Rx.sizes l := by
    intro l
    induction l with
    | nil => intro _; exact Nat.zero_le _
    | cons x l ihl =>
      intro h
      have h1 := ihl fun y hy => h y (List.mem_cons_of_mem _ hy)
      have h2 := h x List.mem_cons_self
      have h3 := sq x.size (Rx.sizes l)
      have h4 := size_pos x
      have h5 : Rx.sizes l ≤ x.size * Rx.sizes l := Nat.le_mul_of_pos_left _ h4
      rw [dSzq, Rx.sizes]
      split <;> omega
  have h1 := hs r.kids ih
  have h2 := hq r.kids ih
  have e := size_eq r
  obtain ⟨c, hc, hc1⟩ : ∃ c, r.size = Rx.sizes r.kids + c ∧ 1 ≤ c := ⟨1 + r.syms.length, by omega, by omega⟩
  have h3 := sq (Rx.sizes r.kids) c
  have h4 : Rx.sizes r.kids ≤ Rx.sizes r.kids * c := Nat.le_mul_of_pos_right _ hc1
  have h5 : c ≤ c * c := Nat.le_mul_of_pos_right _ hc1
  rw [dSz_eq, hc]
  split
  · omega
  · split
    · omega
    · split
      · omega
      · omega
theorem dSz_bd {r : Rx} {n : Nat} (h : r.size ≤ n) : dSz r ≤ 4 * (n * n) := Nat.le_trans (dSz_quad r) (Nat.mul_le_mul_left 4 (Nat.mul_le_mul h h))
end Go.Wb

