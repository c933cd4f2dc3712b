/-
  Plain functions: reversing normal forms.
-/
import Derived.Test.YtgdehkimfmfofaaGreatRows
import Derived.Shelf.Strings.OnBuilder
import Derived.Ground.NamesProg
import Derived.Test.YtgdehkimfmfofaaGreatJ18
import Derived.Lib.Join
import Derived.Test.YtgdehkimfmfofaaGreatJ9
import Derived.Test.YtgdehkimfmfofaaGreatJ14
set_option linter.unusedVariables false
set_option linter.unusedSimpArgs false
namespace Go.Proofs
open Go.Shelf
def Tryz.lays156_ren : Go.Shelf.Ren := ⟨fun | 156 => 100 | 165 => 128 | 166 => 129 | 169 => 130 | 240 => 142 | 241 => 143 | 276 => 165 | 277 => 166 | n => n, fun | 31 => 111 | 9 => 9 | 3 => 3 | 4 => 4 | 0 => 0 | 20 => 20 | 72 => 135 | 76 => 139 | 70 => 133 | 37 => 45 | 75 => 138 | 127 => 150 | 164 => 166 | 5 => 5 | 80 => 141 | n => n, fun | n => n⟩
theorem Tryz.lays156 : Go.Proofs.Lays.n156 Tryz.prog Tryz.lays156_ren := {
  mixed := by kernel_rfl
  f156 := Tryz.func100.trans (congrArg some (by kernel_rfl))
  f165 := Tryz.func128.trans (congrArg some (by kernel_rfl))
  f166 := Tryz.func129.trans (congrArg some (by kernel_rfl))
  f169 := Tryz.func130.trans (congrArg some (by kernel_rfl))
  f240 := Tryz.func142.trans (congrArg some (by kernel_rfl))
  f241 := Tryz.func143.trans (congrArg some (by kernel_rfl))
  f276 := Tryz.func165.trans (congrArg some (by kernel_rfl))
  f277 := Tryz.func166.trans (congrArg some (by kernel_rfl))
  t0 := Tryz.underlying0
  a0 := Tryz.isAgg0
  z0 := Tryz.sizeOf0
  v0 := Tryz.zeroValue0
  t3 := Tryz.underlying3
  a3 := Tryz.isAgg3
  z3 := Tryz.sizeOf3
  v3 := Tryz.zeroValue3
  t4 := Tryz.underlying4
  a4 := Tryz.isAgg4
  z4 := Tryz.sizeOf4
  v4 := Tryz.zeroValue4
  t9 := Tryz.underlying9
  a9 := Tryz.isAgg9
  z9 := Tryz.sizeOf9
  v9 := Tryz.zeroValue9
  t20 := Tryz.underlying20
  a20 := Tryz.isAgg20
  z20 := Tryz.sizeOf20
  v20 := Tryz.zeroValue20
  t31 := Tryz.underlying111
  a31 := Tryz.isAgg111
  z31 := Tryz.sizeOf111
  v31 := Tryz.zeroValue111
  t37 := Tryz.underlying45
  a37 := Tryz.isAgg45
  z37 := Tryz.sizeOf45
  v37 := Tryz.zeroValue45
  t70 := Tryz.underlying133
  a70 := Tryz.isAgg133
  z70 := Tryz.sizeOf133
  v70 := Tryz.zeroValue133
  t72 := Tryz.underlying135
  a72 := Tryz.isAgg135
  z72 := Tryz.sizeOf135
  v72 := Tryz.zeroValue135
  t75 := Tryz.underlying138
  a75 := Tryz.isAgg138
  z75 := Tryz.sizeOf138
  v75 := Tryz.zeroValue138
  t76 := Tryz.underlying139
  a76 := Tryz.isAgg139
  z76 := Tryz.sizeOf139
  v76 := Tryz.zeroValue139
  t127 := Tryz.underlying150
  a127 := Tryz.isAgg150
  z127 := Tryz.sizeOf150
  v127 := Tryz.zeroValue150
  t164 := Tryz.underlying166
  a164 := Tryz.isAgg166
  z164 := Tryz.sizeOf166
  v164 := Tryz.zeroValue166 }
theorem Tryz.Builder_Extra_156 : Builder.Extra Tryz.prog Tryz.lays156_ren := {
  sizeBuilder := by kernel_rfl
  liesBuilder := by kernel_rfl
  t5 := Tryz.underlying5
  a5 := Tryz.isAgg5
  z5 := Tryz.sizeOf5
  v5 := Tryz.zeroValue5
  infoByte := by kernel_rfl
  cellsByte := by kernel_rfl
  sizeByte := by kernel_rfl
  neB5 := by decide }
end Go.Proofs

namespace Go.Wb
set_option linter.unusedVariables false
open Go.Am Go.Wc
def joinB (l : List (List UInt8)) : List UInt8 := Lib.join l [124]
theorem join_len : ∀ {l : List (List UInt8)} {n : Nat}, (∀ x ∈ l, x.length ≤ n) → (joinB l).length ≤ l.length * (n + 1)
  | [], n, _ => Nat.zero_le _
  | [x], n, h => by
    have := h x List.mem_cons_self
    show (List.intercalate [124] [x]).length ≤ _
    simp [List.intercalate]; omega
  | x :: y :: l, n, h => by
    have h1 := h x List.mem_cons_self
    have h2 := join_len (l := y :: l) fun z hz => h z (List.mem_cons_of_mem _ hz)
    have e : joinB (x :: y :: l) = x ++ [124] ++ joinB (y :: l) := by
      unfold joinB Lib.join List.intercalate; simp [List.intersperse]
    rw [e, List.length_append, List.length_append, List.length_cons (a := x), Nat.add_mul, List.length_singleton]
    omega
def letterT (a : List Letter) (n : Int) : List UInt8 := if n = 63 then [45] else if n = 62 then [35] else (a.getD n.toNat default).text
def bareR (a : List Letter) (r : Rx) : Int := if r.kind = 2 ∧ r.syms.length = 1 ∧ r.syms.getD 0 default < a.length then r.syms.getD 0 default else -1
def setT (a : List Letter) (s : List Int) : List UInt8 :=
  if s.length = a.length ∧ 1 < a.length ∧ s.getD (a.length - 1) default = (a.length : Int) - 1 then [46]
  else if s.length = 1 then letterT a (s.getD 0 default) else [40] ++ joinB (s.map (letterT a)) ++ [41]
def partT (r : Rx) (rep : Bool) (t : List UInt8) : List UInt8 := if r.kind = 4 ∨ (r.kind = 3 ∧ rep = true) then [40] ++ t ++ [41] else t
def longR (a : List Letter) (last : Int) : Bool := decide (0 ≤ last) && a.any fun y => decide ((a.getD last.toNat default).text.length < y.text.length) && preB y.text (a.getD last.toNat default).text
def pieceT (a : List Letter) (last : Int) (x : Rx) (t t0 : List UInt8) : List UInt8 :=
  if longR a last = true ∧ 0 ≤ bareR a x then [40] ++ t ++ [41]
  else if longR a last = true ∧ x.kind = 5 ∧ 0 ≤ bareR a (x.kids.getD 0 default) then [40] ++ t0 ++ [41, 42]
  else partT x false t
mutual
def textR (a : List Letter) : Rx → List UInt8
  | .mk k s l => if k = 0 then [123, 125] else if k = 1 then [] else if k = 2 then setT a s else if k = 4 then joinB (textRs a l)
      else if k = 5 then partT (l.getD 0 default) true ((textRs a l).getD 0 default) ++ [42] else textQ a (-1) l
def textRs (a : List Letter) : List Rx → List (List UInt8)
  | [] => []
  | x :: l => textR a x :: textRs a l
def textQ (a : List Letter) (last : Int) : List Rx → List UInt8
  | [] => []
  | .mk k s l :: q => pieceT a last (.mk k s l) (textR a (.mk k s l)) ((textRs a l).getD 0 default) ++ textQ a (bareR a (.mk k s l)) q
end
theorem textRs_map (a : List Letter) : ∀ l : List Rx, textRs a l = l.map (textR a)
  | [] => by rw [textRs]; rfl
  | x :: l => by rw [textRs, textRs_map a l]; rfl
theorem textQ_cons (a : List Letter) (last : Int) (x : Rx) (q : List Rx) : textQ a last (x :: q) = pieceT a last x (textR a x) ((x.kids.map (textR a)).getD 0 default) ++ textQ a (bareR a x) q := by
  cases x with | mk k s l => rw [textQ, textRs_map]; rfl
theorem textR_eq (a : List Letter) (r : Rx) : textR a r = if r.kind = 0 then [123, 125] else if r.kind = 1 then [] else if r.kind = 2 then setT a r.syms else if r.kind = 4 then joinB (r.kids.map (textR a))
      else if r.kind = 5 then partT (r.kids.getD 0 default) true ((r.kids.map (textR a)).getD 0 default) ++ [42] else textQ a (-1) r.kids := by
  cases r with | mk k s l => rw [textR, textRs_map]; rfl
theorem textR_0 {a : List Letter} {r : Rx} (h : r.kind = 0) : textR a r = [123, 125] := by rw [textR_eq, if_pos h]
theorem textR_1 {a : List Letter} {r : Rx} (h : r.kind = 1) : textR a r = [] := by rw [textR_eq, if_neg (by omega), if_pos h]
theorem textR_2 {a : List Letter} {r : Rx} (h : r.kind = 2) : textR a r = setT a r.syms := by rw [textR_eq, if_neg (by omega), if_neg (by omega), if_pos h]
theorem textR_4 {a : List Letter} {r : Rx} (h : r.kind = 4) : textR a r = joinB (r.kids.map (textR a)) := by rw [textR_eq, if_neg (by omega), if_neg (by omega), if_neg (by omega), if_pos h]
theorem textR_5 {a : List Letter} {r : Rx} (h : r.kind = 5) (h0 : 0 < r.kids.length) : textR a r = partT (r.kids.getD 0 default) true (textR a (r.kids.getD 0 default)) ++ [42] := by
  rw [textR_eq, if_neg (by omega), if_neg (by omega), if_neg (by omega), if_neg (by omega), if_pos h, getD_map h0]
theorem textR_3 {a : List Letter} {r : Rx} (h : r.kind = 3) : textR a r = textQ a (-1) r.kids := by rw [textR_eq, if_neg (by omega), if_neg (by omega), if_neg (by omega), if_neg (by omega), if_neg (by omega)]
def prevB (a : List Letter) (l : List Rx) (i : Nat) : Int := if 0 < i then bareR a (l.getD (i - 1) default) else -1
theorem textQ_step {a : List Letter} {l : List Rx} {i : Nat} (h : i < l.length) : textQ a (prevB a l i) (l.drop i) = pieceT a (prevB a l i) (l.getD i default) (textR a (l.getD i default)) (((l.getD i default).kids.map (textR a)).getD 0 default) ++ textQ a (prevB a l (i + 1)) (l.drop (i + 1)) := by
  rw [drop_cons h, textQ_cons]
  have : prevB a l (i + 1) = bareR a (l.getD i default) := by unfold prevB; rw [if_pos (by omega)]; rfl
  rw [this]
theorem textQ_end {a : List Letter} {l : List Rx} {i : Nat} {z : Int} (h : l.length ≤ i) : textQ a z (l.drop i) = [] := by rw [List.drop_of_length_le h, textQ]
def symK (a : List Letter) (x : Int) : Bool := !(decide ((a.length : Int) ≤ x) && (decide (x ≠ 63) && decide (x ≠ 62)))
mutual
def knownR (a : List Letter) : Rx → Bool
  | .mk k s l => s.all (symK a) && knownRs a l
def knownRs (a : List Letter) : List Rx → Bool
  | [] => true
  | x :: l => knownR a x && knownRs a l
end
theorem knownRs_all (a : List Letter) : ∀ l : List Rx, knownRs a l = l.all (knownR a)
  | [] => by rw [knownRs]; rfl
  | x :: l => by rw [knownRs, knownRs_all a l]; rfl
theorem knownR_eq (a : List Letter) (r : Rx) : knownR a r = (r.syms.all (symK a) && r.kids.all (knownR a)) := by cases r with | mk k s l => rw [knownR, knownRs_all]; rfl
theorem knownR_no {a : List Letter} {r : Rx} {i : Nat} (h : i < r.syms.length) (hn : symK a (r.syms.getD i default) = false) : knownR a r = false := by
  rw [knownR_eq]
  have : r.syms.all (symK a) = false := by rw [List.all_eq_false]; exact ⟨r.syms.getD i default, by rw [getD_el h]; exact List.getElem_mem h, by rw [hn]; decide⟩
  rw [this]; rfl
theorem knownR_yes {a : List Letter} {r : Rx} (h : ∀ i, i < r.syms.length → symK a (r.syms.getD i default) = true) : knownR a r = !(r.kids.any fun x => !knownR a x) := by
  rw [knownR_eq]
  have : r.syms.all (symK a) = true := by
    rw [List.all_eq_true]; intro x hx
    obtain ⟨j, hj, e⟩ := List.getElem_of_mem hx
    have := h j hj; rwa [getD_el hj, e] at this
  rw [this, Bool.true_and, all_not_any]
def printP (a : List Letter) (r : Rx) : List UInt8 := if validR r = true ∧ validA a = true ∧ knownR a (simR r) = true then textR a (simR r) else []
theorem piece_1 {a : List Letter} {last : Int} {x : Rx} {t t0 : List UInt8} (h : longR a last = true) (hb : 0 ≤ bareR a x) : pieceT a last x t t0 = [40] ++ t ++ [41] := if_pos ⟨h, hb⟩
theorem piece_2 {a : List Letter} {last : Int} {x : Rx} {t t0 : List UInt8} (h : longR a last = true) (hb : ¬ 0 ≤ bareR a x) (hk : x.kind = 5) (h0 : 0 ≤ bareR a (x.kids.getD 0 default)) : pieceT a last x t t0 = [40] ++ t0 ++ [41, 42] := by
  unfold pieceT; rw [if_neg (fun q => hb q.2), if_pos ⟨h, hk, h0⟩]
theorem piece_3 {a : List Letter} {last : Int} {x : Rx} {t t0 : List UInt8} (h : ¬ (longR a last = true ∧ 0 ≤ bareR a x)) (h2 : ¬ (longR a last = true ∧ x.kind = 5 ∧ 0 ≤ bareR a (x.kids.getD 0 default))) : pieceT a last x t t0 = partT x false t := by
  unfold pieceT; rw [if_neg h, if_neg h2]
theorem long_no {a : List Letter} {last : Int} (h : ¬ 0 ≤ last) : longR a last = false := by unfold longR; rw [decide_eq_false h]; rfl
theorem long_is {a : List Letter} {last : Int} (h : 0 ≤ last) : longR a last = a.any fun y => decide ((a.getD last.toNat default).text.length < y.text.length) && preB y.text (a.getD last.toNat default).text := by unfold longR; rw [decide_eq_true h]; rfl
theorem bare_range {a : List Letter} {r : Rx} (h : Nf r) : -1 ≤ bareR a r ∧ bareR a r < a.length := by
  unfold bareR
  split
  · next hc =>
    have h1 := (h.k2 hc.1).2
    have h2 := (setOk_iff.1 h1).2.2 (r.syms.getD 0 default) (by rw [getD_el (by omega)]; exact List.getElem_mem (by omega))
    exact ⟨by omega, hc.2.2⟩
  · omega
theorem prev_range {a : List Letter} {l : List Rx} {i : Nat} (h : ∀ x ∈ l, Nf x) (hi : i < l.length) : -1 ≤ prevB a l i ∧ prevB a l i < a.length := by
  unfold prevB
  split
  · exact bare_range (h _ (kid_mem (by omega)))
  · omega
theorem letter_len {a : List Letter} (h : ∀ x ∈ a, x.text.length ≤ 4) (n : Int) : (letterT a n).length ≤ 4 := by
  unfold letterT
  split
  · decide
  · split
    · decide
    · rw [List.getD_eq_getElem?_getD]
      cases hk : a[n.toNat]? with
      | none => exact Nat.zero_le _
      | some x => exact h x (List.mem_of_getElem? hk)
theorem joins_len {f : Rx → List UInt8} : ∀ l : List Rx, (∀ x ∈ l, (f x).length + 3 ≤ 8 * x.size) → (joinB (l.map f)).length ≤ 8 * Rx.sizes l
  | [], _ => Nat.zero_le _
  | [x], h => by
    have := h x List.mem_cons_self
    rw [Rx.sizes]
    show (List.intercalate [124] [f x]).length ≤ _
    simp [List.intercalate]; omega
  | x :: y :: l, h => by
    have h1 := h x List.mem_cons_self
    have h2 := joins_len (f := f) (y :: l) fun z hz => h z (List.mem_cons_of_mem _ hz)
    have e : joinB ((x :: y :: l).map f) = f x ++ [124] ++ joinB ((y :: l).map f) := by
      unfold joinB Lib.join List.intercalate; simp [List.intersperse]
    rw [e, List.length_append, List.length_append, List.length_singleton, Rx.sizes]
    omega
theorem part_len (x : Rx) (b : Bool) (t : List UInt8) : (partT x b t).length ≤ t.length + 2 := by
  unfold partT; split
  · simp; try omega
  · omega
theorem piece_len {a : List Letter} {last : Int} {x : Rx} {t t0 : List UInt8} {n : Nat} (h : t.length + 3 ≤ n) (h0 : t0.length + 3 ≤ n) : (pieceT a last x t t0).length ≤ n := by
  have := part_len x false t
  unfold pieceT; split
  · simp; try omega
  · split
    · simp; first | done | omega
    · omega
theorem textQ_len {a : List Letter} : ∀ (l : List Rx) (last : Int), (∀ x ∈ l, (textR a x).length + 3 ≤ 8 * x.size) → (∀ x ∈ l, ∀ y ∈ x.kids, (textR a y).length + 3 ≤ 8 * y.size) → (textQ a last l).length ≤ 8 * Rx.sizes l
  | [], _, _, _ => by rw [textQ]; exact Nat.zero_le _
  | x :: l, last, h, h2 => by
    have h3 := textQ_len l (bareR a x) (fun y hy => h y (List.mem_cons_of_mem _ hy)) fun y hy => h2 y (List.mem_cons_of_mem _ hy)
    have h4 := h x List.mem_cons_self
    have h5 : ((x.kids.map (textR a)).getD 0 default).length + 3 ≤ 8 * x.size := by
      by_cases h0 : 0 < x.kids.length
      · rw [getD_map h0]
        have := h2 x List.mem_cons_self _ (kid_mem h0)
        have := kid_lt h0
        omega
      · rw [List.eq_nil_of_length_eq_zero (l := x.kids) (by omega)]
        have := size_pos x
        show 0 + 3 ≤ _; omega
    have h6 := piece_len (a := a) (last := last) (x := x) h4 h5
    rw [textQ_cons, List.length_append, Rx.sizes]; omega
theorem text_len {a : List Letter} (ha : ∀ x ∈ a, x.text.length ≤ 4) (r : Rx) : (textR a r).length + 3 ≤ 8 * r.size := by
  have : ∀ n (r : Rx), r.size ≤ n → (textR a r).length + 3 ≤ 8 * r.size := by
    intro n
    induction n with
    | zero => intro r hr; have := size_pos r; omega
    | succ n ih =>
      intro r hr
      have hk : ∀ x ∈ r.kids, (textR a x).length + 3 ≤ 8 * x.size := fun x hx => ih x (by have := size_kid hx; omega)
      have hkk : ∀ x ∈ r.kids, ∀ y ∈ x.kids, (textR a y).length + 3 ≤ 8 * y.size := fun x hx y hy => ih y (by have := size_kid hx; have := size_kid hy; omega)
      have hs := size_eq r
      have hp := size_pos r
      rw [textR_eq]
      split
      · show 2 + 3 ≤ _; omega
      · split
        · show 0 + 3 ≤ _; omega
        · split
          · unfold setT
            split
            · show 1 + 3 ≤ _; omega
            · split
              · have := letter_len ha (r.syms.getD 0 default); omega
              · have h1 := join_len (l := r.syms.map (letterT a)) (n := 4) fun x hx => by
                  obtain ⟨y, _, rfl⟩ := List.mem_map.1 hx; exact letter_len ha y
                rw [List.length_map] at h1
                simp only [List.length_append, List.length_cons, List.length_nil]
                omega
          · split
            · have := joins_len r.kids hk; omega
            · split
              · have h1 := part_len (r.kids.getD 0 default) true ((r.kids.map (textR a)).getD 0 default)
                rw [List.length_append]
                by_cases h0 : 0 < r.kids.length
                · rw [getD_map h0] at h1 ⊢
                  have := hk _ (kid_mem h0)
                  have := size_mem (kid_mem h0)
                  simp only [List.length_cons, List.length_nil]; omega
                · rw [List.eq_nil_of_length_eq_zero (l := r.kids) (by omega)] at h1 ⊢
                  have e : ((List.map (textR a) []).getD 0 default).length = 0 := rfl
                  simp only [List.length_cons, List.length_nil]; omega
              · have := textQ_len r.kids (-1) hk hkk; omega
  exact this _ r (Nat.le_refl _)
theorem nf_kids {r : Rx} (h : Nf r) : ∀ x ∈ r.kids, Nf x := by
  cases h with
  | seq h1 h2 h3 => exact fun x hx => h2 x hx
  | alt h1 h2 h3 h4 h5 h6 => exact fun x hx => h2 x hx
  | @star y h1 h2 h3 =>
    intro x hx
    have e : x = y := List.mem_singleton.1 hx
    rw [e]; exact h1
  | _ => exact fun x hx => by cases hx
theorem nf_syms {a : List Letter} {r : Rx} (h : Nf r) (hk : knownR a r = true) : ∀ z ∈ r.syms, 0 ≤ z ∧ (z < a.length ∨ z = 63 ∨ z = 62) := by
  intro z hz
  rw [knownR_eq, Bool.and_eq_true, List.all_eq_true] at hk
  have h1 := hk.1 z hz
  have h2 : 0 ≤ z := by
    cases h with
    | set h => exact ((setOk_iff.1 h).2.2 z hz).1
    | _ => cases hz
  refine ⟨h2, ?_⟩
  unfold symK at h1
  rw [Bool.not_eq_true', Bool.and_eq_false_iff, Bool.and_eq_false_iff] at h1
  simp only [decide_eq_false_iff_not] at h1
  omega
theorem known_kids {a : List Letter} {r : Rx} (hk : knownR a r = true) : ∀ x ∈ r.kids, knownR a x = true := by
  rw [knownR_eq, Bool.and_eq_true, List.all_eq_true, List.all_eq_true] at hk; exact hk.2
theorem setT_dot {a : List Letter} {s : List Int} (h : s.length = a.length) (h1 : 1 < a.length) (h2 : s.getD (a.length - 1) default = (a.length : Int) - 1) : setT a s = [46] := if_pos ⟨h, h1, h2⟩
theorem setT_one {a : List Letter} {s : List Int} (h : ¬ (s.length = a.length ∧ 1 < a.length ∧ s.getD (a.length - 1) default = (a.length : Int) - 1)) (h1 : s.length = 1) : setT a s = letterT a (s.getD 0 default) := by unfold setT; rw [if_neg h, if_pos h1]
theorem setT_many {a : List Letter} {s : List Int} (h : ¬ (s.length = a.length ∧ 1 < a.length ∧ s.getD (a.length - 1) default = (a.length : Int) - 1)) (h1 : ¬ s.length = 1) : setT a s = [40] ++ joinB (s.map (letterT a)) ++ [41] := by unfold setT; rw [if_neg h, if_neg h1]
theorem validA_txt {a : List Letter} (h : validA a = true) : ∀ x ∈ a, x.text.length ≤ 4 := by
  intro x hx
  obtain ⟨j, hj, e⟩ := List.getElem_of_mem hx
  have h1 := ((of_decide_eq_true (p := validP a) h).2 j hj).1.1
  rw [getD_el hj, e] at h1
  unfold plainT at h1
  rw [Bool.and_eq_true, Bool.and_eq_true, decide_eq_true_eq, decide_eq_true_eq] at h1
  exact h1.2
end Go.Wb

namespace Go.Am
open Go.RowKit
set_option linter.unusedVariables false
def CallW (P : Program) (f : FuncId) (ds : List AV) (r : RV) : Prop :=
  Callable P f ∧ ∀ (w : World) (vs : List Value), vs.length = ds.length → (∀ (j : Nat) d, ds[j]? = some d → Rep w (fun _ => False) (vs.getD j undef) d) →
    Calls P f vs.toArray w fun e w' => ∃ v, e = .returned v ∧ BelowD False w.heap.size w w' ∧ RVok P w' (fun b => b < w.heap.size) (fun b => b < w.heap.size) v r
section
variable {P : Program} {w0 : Fr} {M0 : Nat → Prop}
theorem callW_of_code {f n t : Nat} {c : Code} (hf : Fn1 P f n t c) {ds : List AV} {r : RV} (hn : ds.length ≤ n)
    (h : ∀ (w0 : Fr) (M0 : Nat → Prop), (∀ b, M0 b → b < w0.w.heap.size) → ¬ w0.dr → CodeOk P w0 M0 c (St.enter n .mx ds) (endQ t r)) : CallW P f ds r :=
  ⟨hf.callable, fun w vs hv hr => calls_of_code (D := False) (cl := .mx) hf hn vs hv (fun j d hd => hr j d hd) (h (Fr.allD False w) (fun b => b < w.heap.size) (fun b hb => hb) (fun h => h))⟩
theorem pure_callW {o : Oper} {ρ : Operand → Option SV} {ob : List (Nat × Ob)} {cx : Operand} {args : Array Operand} {ats : Array TypeId} {c : Cls} {f : FuncId} {caps ds : List AV} {r : RV} (hdr : ¬ w0.dr)
    (ho : o.op = .call { callee := .value cx, args := args, argTypes := ats }) (hc : ρ cx = some (.v c (.clo f caps))) (ha : viewAll ρ ob args.toList = some ds) (h : CallW P f (ds ++ caps) r)
    (hM0 : ∀ b, M0 b → b < w0.w.heap.size) : Pure P w0 M0 o ρ ob (.v .pl r.data) := by
  intro E w ev hw hx
  have hcv := hx cx _ hc
  simp only [SVok] at hcv
  generalize hq : ev cx = q at hcv
  cases hcv with
  | clo _ vs _ hn hr =>
    have hv := viewAll_ok hw hx _ _ ha
    unfold Yield
    rw [run_call ho hq h.1]
    refine ⟨rfl, ?_⟩
    have hall := h.2 w (args.toList.map ev ++ vs) (by simp [hv.1, hn]) (fun j d hd => ?_)
    · have e1 : (args.toList.map ev ++ vs).toArray = args.map ev ++ vs.toArray := by apply Array.ext' ; simp
      rw [e1] at hall
      refine hall.mono fun e w' ⟨v, he, hb, hrv⟩ => ⟨v, he, hb.less (fun d => hdr d), ?_⟩
      have hrep := hrv.rep (fun b hb => hb)
      refine hrep.weak fun b hb' => ?_
      rcases hb' with hb' | hb'
      · have := hM0 b hb'; have := hw.below.size; omega
      · exact (hw.owned_range hb').2
    · rw [List.getD_eq_getElem?_getD]
      rcases Nat.lt_or_ge j ds.length with hlt | hge
      · rw [List.getElem?_append_left hlt] at hd
        have := hv.2 j d hd
        rw [List.getElem?_append_left (by simp [hv.1]; omega)]
        rwa [List.getD_eq_getElem?_getD] at this
      · rw [List.getElem?_append_right hge] at hd
        have := hr _ d hd
        rw [List.getElem?_append_right (by simp [hv.1]; omega)]
        simp only [List.length_map, hv.1]
        rw [List.getD_eq_getElem?_getD] at this
        exact this.weak (fun b hb => hb.elim)
theorem CallW.use {f : FuncId} {ds : List AV} {r : RV} (h : CallW P f ds r) {w : World} {vs : List Value} (hr : Reps w (fun _ => False) vs ds) :
    Calls P f vs.toArray w fun e w' => ∃ v, e = .returned v ∧ BelowD False w.heap.size w w' ∧ RVok P w' (fun b => b < w.heap.size) (fun b => b < w.heap.size) v r :=
  h.2 w vs hr.get.1 hr.get.2
end
end Go.Am

namespace Go.Wb
set_option linter.unusedVariables false
open Go.Am Go.Wc
set_option maxRecDepth 100000
def abcL : List Letter := [⟨[97], 0, 0, 0, 1⟩, ⟨[98], 1, 0, 0, 1⟩, ⟨[99], 2, 0, 0, 1⟩]
def restL : Rx := .mk 5 [] [.mk 2 [1, 2] []]
def xL : Rx := .mk 3 [] [.mk 2 [0] [], restL]
def zL : Rx := .mk 3 [] [restL, .mk 2 [0] []]
theorem liv1 : parseP abcL [] [97, 40, 98, 124, 99, 41, 42] = (xL, -1) := by kernel_rfl
theorem liv2 : (parseP abcL [] [97, 41]).2 = 1 := by kernel_rfl
theorem liv3 : (parseP abcL [] [40, 97]).2 = 2 := by kernel_rfl
theorem liv4 : (parseP abcL [] [97, 42, 98, 124, 42]).2 = 4 := by kernel_rfl
theorem liv5 : printP abcL xL = [97, 40, 98, 124, 99, 41, 42] := by kernel_rfl
theorem liv6 : dR 0 (simR xL) = restL := by kernel_rfl
theorem liv7 : dR 1 (simR xL) = noneRx := by kernel_rfl
theorem liv8 : simR (.mk 4 [] [emptyRx, restL]) = restL := by kernel_rfl
theorem liv9 : revR xL = zL := by kernel_rfl
theorem liv10 : matchR xL [0, 1, 2, 1] = true := by kernel_rfl
theorem liv11 : matchR xL [1] = false := by kernel_rfl
theorem liv12 : validR xL = true := by kernel_rfl
end Go.Wb

namespace Go.Wb
set_option linter.unusedVariables false
open Go.Am
def rvR (x : Rx) : Rx := buildR true x
structure RvOk (x : Rx) : Prop where
  nf : Nf x
  kind : (rvR x).kind = x.kind
  acc : accR (rvR x) = accR x
  rnf : Nf (rvR x)
  inv : rvR (rvR x) = x
  kids : x.kind = 4 → ∀ y ∈ (rvR x).kids, ∃ z ∈ x.kids, y.kind = z.kind
  kids' : x.kind = 4 → ∀ z ∈ x.kids, ∃ y ∈ (rvR x).kids, z.kind = y.kind
theorem rv_leaf {x : Rx} (h : Nf x) (h3 : x.kind ≠ 3) (h4 : x.kind ≠ 4) (h5 : x.kind ≠ 5) : rvR x = x := by
  unfold rvR
  rw [buildR_x h3 h4 h5]
  cases h <;> first | rfl | exact absurd rfl h3 | exact absurd rfl h4 | exact absurd rfl h5
theorem rv_ok_leaf {x : Rx} (h : Nf x) (h3 : x.kind ≠ 3) (h4 : x.kind ≠ 4) (h5 : x.kind ≠ 5) : RvOk x := by
  have e := rv_leaf h h3 h4 h5
  exact ⟨h, by rw [e], by rw [e], by rw [e]; exact h, by rw [e, e], fun q => absurd q h4, fun q => absurd q h4⟩
theorem RvOk.rv {x : Rx} (h : RvOk x) : RvOk (rvR x) := by
  refine ⟨h.rnf, by rw [h.inv, h.kind], by rw [h.inv, h.acc], by rw [h.inv]; exact h.nf, by rw [h.inv], fun h4 y hy => ?_, fun h4 y hy => ?_⟩
  · rw [h.inv] at hy
    exact h.kids' (by rw [← h.kind]; exact h4) y hy
  · rw [h.inv]
    exact h.kids (by rw [← h.kind]; exact h4) y hy
theorem map_inv {l : List Rx} (h : ∀ x ∈ l, rvR (rvR x) = x) : (l.map rvR).map rvR = l := by
  rw [List.map_map]; exact map_self h
theorem rv_seq {l : List Rx} (h2 : 2 ≤ l.length) (h : ∀ x ∈ l, RvOk x) (hk : ∀ x ∈ l, x.kind ≠ 0 ∧ x.kind ≠ 1 ∧ x.kind ≠ 3) : rvR (.mk 3 [] l) = .mk 3 [] (l.map rvR).reverse := by
  unfold rvR
  rw [buildR_3t rfl]
  show seqN (l.map rvR).reverse = _
  exact seqN_self (by simpa using h2) fun x hx => by
    rw [List.mem_reverse] at hx
    obtain ⟨y, hy, rfl⟩ := List.mem_map.1 hx
    rw [(h y hy).kind]; exact hk y hy
theorem altM_self {l : List Rx} (hn : ∀ x ∈ l, Nf x) (hk : ∀ x ∈ l, x.kind ≠ 0 ∧ x.kind ≠ 4) (h2 : ∀ x ∈ l, ∀ y ∈ l, x.kind = 2 → y.kind = 2 → x = y) (x : Rx) : x ∈ altM (altS l) (altK l) ↔ x ∈ l := by
  rw [altM_mem, altK_mem, altL_self fun x hx => (hk x hx).2]
  have hS : ∀ y ∈ l, y.kind = 2 → uniI (altS l) = y.syms := fun y hy hy2 => by
    have h3 := ((hn y hy).k2 hy2).2
    rw [← uniI_self (setOk_iff.1 h3).2.1]
    refine uniI_ext fun z => ?_
    rw [altS_mem, altL_self fun x hx => (hk x hx).2]
    exact ⟨fun ⟨q, hq, hq2, hz⟩ => by rw [h2 y hy q hq hy2 hq2]; exact hz, fun hz => ⟨y, hy, hy2, hz⟩⟩
  constructor
  · rintro (h | ⟨h0, rfl⟩)
    · exact h.1
    · obtain ⟨z, hz⟩ := List.length_pos_iff_exists_mem.1 h0
      rw [altS_mem, altL_self fun x hx => (hk x hx).2] at hz
      obtain ⟨y, hy, hy2, _⟩ := hz
      rw [hS y hy hy2, ← ((hn y hy).k2 hy2).1]; exact hy
  · intro hx
    by_cases hx2 : x.kind = 2
    · refine .inr ⟨?_, ?_⟩
      · have h3 := (setOk_iff.1 ((hn x hx).k2 hx2).2).1
        obtain ⟨z, hz⟩ := List.length_pos_iff_exists_mem.1 h3
        exact List.length_pos_iff_exists_mem.2 ⟨z, altS_mem.2 ⟨x, by rw [altL_self fun x hx => (hk x hx).2]; exact hx, hx2, hz⟩⟩
      · rw [hS x hx hx2]; exact ((hn x hx).k2 hx2).1
    · exact .inl ⟨hx, (hk x hx).1, hx2⟩
theorem two_mem {l : List Rx} {x y : Rx} (hx : x ∈ l) (hy : y ∈ l) (h : x ≠ y) : 2 ≤ l.length := by
  match l, hx, hy with
  | [z], hx, hy => exact absurd ((List.mem_singleton.1 hx).trans (List.mem_singleton.1 hy).symm) h
  | _ :: _ :: l, _, _ => simp
structure AltOk (l : List Rx) : Prop where
  len : 2 ≤ l.length
  rv : ∀ x ∈ l, RvOk x
  kinds : ∀ x ∈ l, x.kind ≠ 0 ∧ x.kind ≠ 4
  srt : Srt leR l
  two : ∀ x ∈ l, ∀ y ∈ l, x.kind = 2 → y.kind = 2 → x = y
  acc : ∀ x ∈ l, x.kind = 1 → ∀ y ∈ l, y.kind ≠ 1 → accR y = false
theorem mem_map_rv {l : List Rx} (h : ∀ x ∈ l, RvOk x) {y : Rx} (hy : y ∈ uniR (l.map rvR)) : ∃ x ∈ l, RvOk x ∧ y = rvR x := by
  obtain ⟨x, hx, e⟩ := List.mem_map.1 (uniR_mem.1 hy)
  exact ⟨x, hx, h x hx, e.symm⟩
theorem rv_leaf_eq {x y : Rx} (hx : RvOk x) (hy : RvOk y) (h : rvR x = rvR y) : x = y := by rw [← hx.inv, h, hy.inv]
theorem AltOk.rev {l : List Rx} (h : AltOk l) : AltOk (uniR (l.map rvR)) := by
  refine ⟨?_, fun y hy => ?_, fun y hy => ?_, uniR_srt _, fun y hy z hz h2 h2' => ?_, fun y hy h1 z hz h1' => ?_⟩
  · have h0 : l.getD 0 default ∈ l := kid_mem (by have := h.len; omega)
    have h1 : l.getD 1 default ∈ l := kid_mem (by have := h.len; omega)
    have hne := (pair_getD h.srt (i := 0) (j := 1) (by omega) (by have := h.len; omega)).2
    exact two_mem (x := rvR (l.getD 0 default)) (y := rvR (l.getD 1 default)) (uniR_mem.2 (List.mem_map_of_mem h0)) (uniR_mem.2 (List.mem_map_of_mem h1)) fun e => hne (rv_leaf_eq (h.rv _ h0) (h.rv _ h1) e)
  · obtain ⟨x, hx, hr, rfl⟩ := mem_map_rv h.rv hy
    exact hr.rv
  · obtain ⟨x, hx, hr, rfl⟩ := mem_map_rv h.rv hy
    rw [hr.kind]; exact h.kinds x hx
  · obtain ⟨x, hx, hr, rfl⟩ := mem_map_rv h.rv hy
    obtain ⟨u, hu, hr', rfl⟩ := mem_map_rv h.rv hz
    rw [hr.kind] at h2; rw [hr'.kind] at h2'
    rw [h.two x hx u hu h2 h2']
  · obtain ⟨x, hx, hr, rfl⟩ := mem_map_rv h.rv hy
    obtain ⟨u, hu, hr', rfl⟩ := mem_map_rv h.rv hz
    rw [hr.kind] at h1; rw [hr'.kind] at h1'
    rw [hr'.acc]; exact h.acc x hx h1 u hu h1'
theorem AltOk.nf {l : List Rx} (h : AltOk l) : Nf (.mk 4 [] l) := .alt h.len (fun x hx => (h.rv x hx).nf) h.kinds h.srt h.two h.acc
theorem rv_alt {l : List Rx} (h : AltOk l) : rvR (.mk 4 [] l) = .mk 4 [] (uniR (l.map rvR)) := by
  have hr := h.rev
  have hmap : ∀ x ∈ l.map rvR, x ∈ uniR (l.map rvR) := fun x hx => uniR_mem.2 hx
  unfold rvR
  rw [buildR_4 rfl]
  show altN (l.map rvR) = _
  have hD : altD (l.map rvR) = uniR (l.map rvR) := by
    rw [altD_uni]
    refine uniR_ext fun x => altM_self (fun x hx => (hr.rv x (hmap x hx)).nf) (fun x hx => hr.kinds x (hmap x hx)) (fun x hx y hy => hr.two x (hmap x hx) y (hmap y hy)) x
  unfold altN
  rw [hD, altC_self hr.srt hr.acc fun x hx => (hr.rv x hx).nf, altE_2 (by have := hr.len; omega) (by have := hr.len; omega)]
  rfl
theorem uni_inv {l : List Rx} (h : AltOk l) : uniR ((uniR (l.map rvR)).map rvR) = l := by
  refine srt_ext leR_an (uniR_srt _) h.srt fun x => ?_
  rw [uniR_mem, List.mem_map]
  constructor
  · rintro ⟨y, hy, rfl⟩
    obtain ⟨z, hz, hr, rfl⟩ := mem_map_rv h.rv hy
    rw [hr.inv]; exact hz
  · intro hx
    exact ⟨rvR x, uniR_mem.2 (List.mem_map_of_mem hx), (h.rv x hx).inv⟩
theorem any_mem {l m : List Rx} {p q : Rx → Bool} (h : ∀ x ∈ l, ∃ y ∈ m, p x = q y) (h' : ∀ y ∈ m, ∃ x ∈ l, p x = q y) : l.any p = m.any q := by
  rw [Bool.eq_iff_iff, List.any_eq_true, List.any_eq_true]
  exact ⟨fun ⟨x, hx, hp⟩ => let ⟨y, hy, e⟩ := h x hx; ⟨y, hy, by rw [← e]; exact hp⟩, fun ⟨y, hy, hq⟩ => let ⟨x, hx, e⟩ := h' y hy; ⟨x, hx, by rw [e]; exact hq⟩⟩
theorem rv_ok {x : Rx} (h : Nf x) : RvOk x := by
  induction h with
  | none => exact rv_ok_leaf .none (by decide) (by decide) (by decide)
  | empty => exact rv_ok_leaf .empty (by decide) (by decide) (by decide)
  | set h => exact rv_ok_leaf (.set h) (by simp [Rx.kind]) (by simp [Rx.kind]) (by simp [Rx.kind])
  | @seq l h1 h2 h3 ih =>
    have e := rv_seq h1 ih h3
    have hk : ∀ x ∈ (l.map rvR).reverse, ∃ y ∈ l, RvOk y ∧ x = rvR y := fun x hx => by
      rw [List.mem_reverse] at hx
      obtain ⟨y, hy, q⟩ := List.mem_map.1 hx
      exact ⟨y, hy, ih y hy, q.symm⟩
    have h3' : ∀ x ∈ (l.map rvR).reverse, x.kind ≠ 0 ∧ x.kind ≠ 1 ∧ x.kind ≠ 3 := fun x hx => by
      obtain ⟨y, hy, hr, rfl⟩ := hk x hx
      rw [hr.kind]; exact h3 y hy
    have hr' : ∀ x ∈ (l.map rvR).reverse, RvOk x := fun x hx => by
      obtain ⟨y, hy, hr, rfl⟩ := hk x hx
      exact hr.rv
    refine ⟨.seq h1 h2 h3, by rw [e]; rfl, ?_, by rw [e]; exact .seq (by simpa using h1) (fun x hx => (hr' x hx).nf) h3', ?_, fun q => absurd q (by simp [Rx.kind]), fun q => absurd q (by simp [Rx.kind])⟩
    · rw [e, accR_eq, accR_eq]
      show (l.map rvR).reverse.all accR = l.all accR
      rw [List.all_reverse, List.all_map]
      rw [Bool.eq_iff_iff, List.all_eq_true, List.all_eq_true]
      exact ⟨fun g x hx => by rw [← (ih x hx).acc]; exact g x hx, fun g x hx => by show accR (rvR x) = true; rw [(ih x hx).acc]; exact g x hx⟩
    · rw [e, rv_seq (by simpa using h1) hr' h3', List.map_reverse, List.reverse_reverse, map_inv fun x hx => (ih x hx).inv]
  | @alt l h1 h2 h3 h4 h5 h6 ih =>
    have ho : AltOk l := ⟨h1, ih, h3, h4, h5, h6⟩
    have e := rv_alt ho
    refine ⟨ho.nf, by rw [e]; rfl, ?_, by rw [e]; exact ho.rev.nf, by rw [e, rv_alt ho.rev, uni_inv ho], fun _ y hy => ?_, fun _ z hz => ⟨rvR z, by rw [e]; exact uniR_mem.2 (List.mem_map_of_mem hz), (ih z hz).kind.symm⟩⟩
    · rw [e, accR_eq, accR_eq]
      show (uniR (l.map rvR)).any accR = l.any accR
      exact any_mem (fun y hy => let ⟨x, hx, hr, e⟩ := mem_map_rv ih hy; ⟨x, hx, by rw [e]; exact hr.acc⟩) fun x hx => ⟨rvR x, uniR_mem.2 (List.mem_map_of_mem hx), (ih x hx).acc⟩
    · rw [e] at hy
      obtain ⟨x, hx, hr, rfl⟩ := mem_map_rv ih hy
      exact ⟨x, hx, hr.kind⟩
  | @star x h1 h2 h3 ih =>
    have h3' : (rvR x).kind = 4 → ∀ y ∈ (rvR x).kids, y.kind ≠ 1 := fun h4 y hy => by
      have h4' : x.kind = 4 := by rw [← ih.kind]; exact h4
      obtain ⟨z, hz, e⟩ := ih.kids h4' y hy
      rw [e]; exact h3 h4' z hz
    have h2' : (rvR x).kind ≠ 0 ∧ (rvR x).kind ≠ 1 ∧ (rvR x).kind ≠ 5 := by rw [ih.kind]; exact h2
    have e : rvR (.mk 5 [] [x]) = .mk 5 [] [rvR x] := by
      unfold rvR; rw [buildR_5 rfl]
      show starN (rvR x) = _
      exact starN_self h2' h3' ih.rnf
    have e' : rvR (.mk 5 [] [rvR x]) = .mk 5 [] [x] := by
      unfold rvR; rw [buildR_5 rfl]
      show starN (rvR (rvR x)) = _
      rw [ih.inv]; exact starN_self h2 h3 h1
    exact ⟨.star h1 h2 h3, by rw [e]; rfl, by rw [e, accR_5 rfl, accR_5 rfl], by rw [e]; exact .star ih.rnf h2' h3', by rw [e, e'], fun q => absurd q (by simp [Rx.kind]), fun q => absurd q (by simp [Rx.kind])⟩
end Go.Wb

