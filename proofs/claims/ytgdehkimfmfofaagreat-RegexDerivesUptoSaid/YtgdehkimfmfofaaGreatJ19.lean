/-
  DERIVED: THE SHELF's CONTRACTS AT THIS DUMP, IN PLAIN WORDS (tools/lay-plain.mjs out of 'YtgdehkimfmfofaaGreatLj.lean', which tools/lay-shelf.mjs wrote): THE SAME DECLARATIONS UNDER THE SAME NAMES: 'import', 'namespace', 'open', 'def', 'theorem' AND NOTHING ELSE: no command of the shelf's: FOR A HAND-IN. Each laying: the table of numbers ('.._ren') and one theorem, a field a fact of the dump's own or the kernel's comparison; each contract: ONE APPLICATION.
-/
import Derived.Test.YtgdehkimfmfofaaGreatJ16
import Derived.Test.YtgdehkimfmfofaaGreatJ18
import Derived.Lib.IndexAny
import Derived.Test.YtgdehkimfmfofaaGreatRows
import Derived.Shelf.Strings.OnBuilder
import Derived.Ground.NamesProg
set_option linter.unusedVariables false
set_option linter.unusedSimpArgs false
namespace Go.Wc
open Go.Am
abbrev byte (c : UInt8) : AV := .sc (.int .u8 c.toNat)
abbrev resL : List UInt8 := [48, 49, 50, 51, 52, 53, 54, 55, 56, 57, 45, 35, 46, 124, 40, 41, 42, 63, 123, 125, 62, 47, 95, 126, 59, 58, 44, 61, 34, 64]
def resB (c : UInt8) : Bool := resL.contains c || decide (c.toNat < 33)
def plainT (s : List UInt8) : Bool := s.all (fun c => !resB c) && decide (1 ≤ s.length) && decide (s.length ≤ 4)
theorem plainT_hit {s : List UInt8} {k : Nat} (hk : k < s.length) (h : resB (s.getD k 0) = true) : plainT s = false := by
  unfold plainT
  have : s.all (fun c => !resB c) = false := by
    rw [List.all_eq_false]
    refine ⟨s[k], List.getElem_mem hk, ?_⟩
    rw [List.getD_eq_getElem?_getD, List.getElem?_eq_getElem hk] at h
    simp only [Option.getD_some] at h
    simp [h]
  rw [this]; rfl
theorem plainT_step {s : List UInt8} {k : Nat} (hk : k < s.length) (h0 : (s.take k).all (fun c => !resB c) = true) (h : resB (s.getD k 0) = false) : (s.take (k + 1)).all (fun c => !resB c) = true := by
  rw [take_succ hk, List.all_append, h0]
  have h2 : s.getD k default = s.getD k 0 := rfl
  rw [h2, List.all_cons, h]; rfl
theorem plainT_end {s : List UInt8} {k : Nat} (hk : s.length ≤ k) (h0 : (s.take k).all (fun c => !resB c) = true) : plainT s = (decide (1 ≤ s.length) && decide (s.length ≤ 4)) := by
  rw [List.take_of_length_le hk] at h0
  unfold plainT
  rw [h0, Bool.true_and]

def ok1P (a : List Letter) (x : Letter) : Prop :=
  plainT x.text = true ∧ 0 ≤ x.base ∧ x.base < a.length ∧ (a.getD x.base.toNat default).base = x.base ∧ 0 ≤ x.mark ∧ x.mark ≤ 15 ∧ 0 ≤ x.cap ∧ x.cap ≤ 1 ∧ 1 ≤ x.width ∧ x.width ≤ 1000
def ok2P (x : Letter) (i : Nat) : Prop := x.base = i → x.mark = 0 ∧ x.cap = 0
def ok3P (a : List Letter) (i : Nat) : Prop := ∀ k, k < i → (a.getD k default).text ≠ (a.getD i default).text
def okP (a : List Letter) (i : Nat) : Prop := ok1P a (a.getD i default) ∧ ok2P (a.getD i default) i ∧ ok3P a i
instance (a : List Letter) (x : Letter) : Decidable (ok1P a x) := by unfold ok1P; infer_instance
instance (x : Letter) (i : Nat) : Decidable (ok2P x i) := by unfold ok2P; infer_instance
instance (a : List Letter) (i : Nat) : Decidable (ok3P a i) := by unfold ok3P; infer_instance
instance (a : List Letter) (i : Nat) : Decidable (okP a i) := by unfold okP; infer_instance
def validP (a : List Letter) : Prop := (1 ≤ a.length ∧ a.length ≤ 60) ∧ ∀ i, i < a.length → okP a i
instance (a : List Letter) : Decidable (validP a) := by unfold validP; infer_instance
def validA (a : List Letter) : Bool := decide (validP a)
theorem validA_size {a : List Letter} (h : a.length < 1 ∨ 60 < a.length) : validA a = false := by
  unfold validA; rw [decide_eq_false]; rintro ⟨h1, _⟩; omega
theorem validA_bad1 {a : List Letter} {i : Nat} (hi : i < a.length) (h : ¬ ok1P a (a.getD i default)) : validA a = false := by
  unfold validA; rw [decide_eq_false]; rintro ⟨_, h2⟩; exact h (h2 i hi).1
theorem validA_bad2 {a : List Letter} {i : Nat} (hi : i < a.length) (h : ¬ ok2P (a.getD i default) i) : validA a = false := by
  unfold validA; rw [decide_eq_false]; rintro ⟨_, h2⟩; exact h (h2 i hi).2.1
theorem validA_good {a : List Letter} {n : Nat} (h1 : 1 ≤ a.length ∧ a.length ≤ 60) (hn : a.length ≤ n) (h : ∀ i, i < n → okP a i) : validA a = true := by
  unfold validA; rw [decide_eq_true]; exact ⟨h1, fun i hi => h i (by omega)⟩
theorem lt_step {p : Nat → Prop} {k : Nat} (h : ∀ j, j < k → p j) (hk : p k) : ∀ j, j < k + 1 → p j := by
  intro j hj
  by_cases he : j = k
  · subst he; exact hk
  · exact h j (by omega)
abbrev lcells (c : Cls) (x : Letter) : List SV := [.v c (sbytes x.text), .v c (int x.base), .v c (int x.mark), .v c (int x.cap), .v c (int x.width)]
end Go.Wc

namespace Go.Wb
set_option linter.unusedVariables false
open Go.Am Go.Wc
structure SetT where
  name : List UInt8
  syms : List Int
instance : Inhabited SetT := ⟨⟨[], []⟩⟩
abbrev setA (x : SetT) : AV := .agg [sbytes x.name, ints x.syms]
abbrev setsA (l : List SetT) : AV := .sl (l.map setA)
def preB (s t : List UInt8) : Bool := decide (t.length ≤ s.length) && decide (s.take t.length = t)
theorem indexByte_lt : ∀ {l : List UInt8} {c : UInt8}, Lib.indexByte l c < l.length ∧ -1 ≤ Lib.indexByte l c
  | [], c => by unfold Lib.indexByte; exact ⟨by decide, by decide⟩
  | b :: l, c => by
    have h := indexByte_lt (l := l) (c := c)
    unfold Lib.indexByte
    rw [List.length_cons]
    split
    · omega
    · split <;> omega
def cutB (s : List UInt8) (c : UInt8) : List UInt8 := if 0 ≤ Lib.indexByte s c then s.take (Lib.indexByte s c).toNat else s
def cutA (s : List UInt8) (c : UInt8) : List UInt8 := if 0 ≤ Lib.indexByte s c then s.drop (Lib.indexByte s c + 1).toNat else []
def bestN (a : List Letter) (t : List UInt8) : Nat → Nat × Nat
  | 0 => (0, 0)
  | i + 1 => if (bestN a t i).2 < (a.getD i default).text.length ∧ preB t (a.getD i default).text = true then (i, (a.getD i default).text.length) else bestN a t i
def oneR (l : List Int) : Rx := .mk 2 l []
def nameB (t : List UInt8) : List UInt8 := cutB (t.drop 1) 125
def tokAt (a : List Letter) (sets : List SetT) (t : List UInt8) : Int × Rx × Nat :=
  if 0 < (bestN a t a.length).2 then (97, oneR [((bestN a t a.length).1 : Int)], (bestN a t a.length).2)
  else if ((t.getD 0 default).toNat : Int) = 46 then (97, oneR ((List.range a.length).map fun (k : Nat) => (k : Int)), 1)
  else if ((t.getD 0 default).toNat : Int) = 45 then (97, oneR [63], 1)
  else if ((t.getD 0 default).toNat : Int) = 35 then (97, oneR [62], 1)
  else if 0 ≤ Lib.indexByte [124, 40, 41, 42, 63] (t.getD 0 default) then (((t.getD 0 default).toNat : Int), noneRx, 1)
  else if ((t.getD 0 default).toNat : Int) ≠ 123 ∨ Lib.indexByte (t.drop 1) 125 < 0 then (0, noneRx, 0)
  else if nameB t = [] then (97, noneRx, 2)
  else if 0 ≤ idxF (fun x : SetT => decide (x.name = nameB t)) sets ∧ setOk (sets.getD (idxF (fun x : SetT => decide (x.name = nameB t)) sets).toNat default).syms = true then
    (97, oneR (sets.getD (idxF (fun x : SetT => decide (x.name = nameB t)) sets).toNat default).syms, (nameB t).length + 2)
  else (0, noneRx, 0)
def tokN (a : List Letter) (sets : List SetT) (s : List UInt8) : Nat → Nat → List Tok
  | 0, at_ => [⟨101, noneRx, at_⟩]
  | n + 1, at_ => if at_ < s.length then (if (tokAt a sets (s.drop at_)).1 = 0 then [⟨0, noneRx, at_⟩] else ⟨(tokAt a sets (s.drop at_)).1, (tokAt a sets (s.drop at_)).2.1, at_⟩ :: tokN a sets s n (at_ + (tokAt a sets (s.drop at_)).2.2)) else [⟨101, noneRx, at_⟩]
def toksP (a : List Letter) (sets : List SetT) (s : List UInt8) : List Tok := tokN a sets s s.length 0
section
variable {a : List Letter} {sets : List SetT} {s t : List UInt8}
theorem tokN_end {n k : Nat} (h : s.length ≤ k) : tokN a sets s n k = [⟨101, noneRx, k⟩] := by
  cases n with
  | zero => rfl
  | succ n => rw [tokN, if_neg (by omega)]
theorem tokN_bad {n k : Nat} (h : k < s.length) (h0 : (tokAt a sets (s.drop k)).1 = 0) : tokN a sets s (n + 1) k = [⟨0, noneRx, k⟩] := by rw [tokN, if_pos h, if_pos h0]
theorem tokN_ok {n k m : Nat} {c : Int} {x : Rx} (h : k < s.length) (h1 : tokAt a sets (s.drop k) = (c, x, m)) (h0 : c ≠ 0) : tokN a sets s (n + 1) k = ⟨c, x, k⟩ :: tokN a sets s n (k + m) := by
  rw [tokN, if_pos h, h1, if_neg h0]
theorem bestN_lt : ∀ i, (bestN a t i).2 = 0 ∧ (bestN a t i).1 = 0 ∨ (bestN a t i).1 < i
  | 0 => .inl ⟨rfl, rfl⟩
  | i + 1 => by
    rw [bestN]
    split
    · exact .inr (Nat.lt_succ_self i)
    · rcases bestN_lt i with h | h
      · exact .inl h
      · exact .inr (by omega)
theorem bestN_yes {i : Nat} (h : (bestN a t i).2 < (a.getD i default).text.length) (h2 : preB t (a.getD i default).text = true) : bestN a t (i + 1) = (i, (a.getD i default).text.length) := by
  rw [bestN, if_pos ⟨h, h2⟩]
theorem bestN_no {i : Nat} (h : ¬ ((bestN a t i).2 < (a.getD i default).text.length ∧ preB t (a.getD i default).text = true)) : bestN a t (i + 1) = bestN a t i := by
  rw [bestN, if_neg h]
theorem tokAt_best (h : 0 < (bestN a t a.length).2) : tokAt a sets t = (97, oneR [((bestN a t a.length).1 : Int)], (bestN a t a.length).2) := if_pos h
section
variable (hb : ¬ 0 < (bestN a t a.length).2)
theorem tokAt_dot (hb : ¬ 0 < (bestN a t a.length).2) (h : ((t.getD 0 default).toNat : Int) = 46) : tokAt a sets t = (97, oneR ((List.range a.length).map fun (k : Nat) => (k : Int)), 1) := by unfold tokAt; rw [if_neg hb, if_pos h]
theorem tokAt_minus (hb : ¬ 0 < (bestN a t a.length).2) (h1 : ¬ ((t.getD 0 default).toNat : Int) = 46) (h : ((t.getD 0 default).toNat : Int) = 45) : tokAt a sets t = (97, oneR [63], 1) := by unfold tokAt; rw [if_neg hb, if_neg h1, if_pos h]
theorem tokAt_hash (hb : ¬ 0 < (bestN a t a.length).2) (h1 : ¬ ((t.getD 0 default).toNat : Int) = 46) (h2 : ¬ ((t.getD 0 default).toNat : Int) = 45) (h : ((t.getD 0 default).toNat : Int) = 35) : tokAt a sets t = (97, oneR [62], 1) := by unfold tokAt; rw [if_neg hb, if_neg h1, if_neg h2, if_pos h]
theorem tokAt_mark (hb : ¬ 0 < (bestN a t a.length).2) (h1 : ¬ ((t.getD 0 default).toNat : Int) = 46) (h2 : ¬ ((t.getD 0 default).toNat : Int) = 45) (h3 : ¬ ((t.getD 0 default).toNat : Int) = 35) (h : 0 ≤ Lib.indexByte [124, 40, 41, 42, 63] (t.getD 0 default)) :
    tokAt a sets t = (((t.getD 0 default).toNat : Int), noneRx, 1) := by unfold tokAt; rw [if_neg hb, if_neg h1, if_neg h2, if_neg h3, if_pos h]
theorem tokAt_rest (hb : ¬ 0 < (bestN a t a.length).2) (h1 : ¬ ((t.getD 0 default).toNat : Int) = 46) (h2 : ¬ ((t.getD 0 default).toNat : Int) = 45) (h3 : ¬ ((t.getD 0 default).toNat : Int) = 35) (h4 : ¬ 0 ≤ Lib.indexByte [124, 40, 41, 42, 63] (t.getD 0 default)) :
    tokAt a sets t = if ((t.getD 0 default).toNat : Int) ≠ 123 ∨ Lib.indexByte (t.drop 1) 125 < 0 then (0, noneRx, 0) else if nameB t = [] then (97, noneRx, 2)
      else if 0 ≤ idxF (fun x : SetT => decide (x.name = nameB t)) sets ∧ setOk (sets.getD (idxF (fun x : SetT => decide (x.name = nameB t)) sets).toNat default).syms = true then
        (97, oneR (sets.getD (idxF (fun x : SetT => decide (x.name = nameB t)) sets).toNat default).syms, (nameB t).length + 2) else (0, noneRx, 0) := by
  unfold tokAt; rw [if_neg hb, if_neg h1, if_neg h2, if_neg h3, if_neg h4]
end
end
theorem idxF_lt {α : Type} [Inhabited α] {p : α → Bool} {l : List α} : idxF p l < l.length := by
  unfold idxF
  split
  · next h =>
    obtain ⟨x, hx, hp⟩ := List.any_eq_true.1 h
    have := List.findIdx_lt_length_of_exists ⟨x, hx, hp⟩
    omega
  · omega
theorem preB_len {s t : List UInt8} (h : preB s t = true) : t.length ≤ s.length := by
  unfold preB at h; rw [Bool.and_eq_true, decide_eq_true_eq] at h; exact h.1
theorem bestN_le (a : List Letter) (t : List UInt8) : ∀ i, (bestN a t i).2 ≤ t.length
  | 0 => Nat.zero_le _
  | i + 1 => by
    rw [bestN]
    split
    · next h => exact preB_len h.2
    · exact bestN_le a t i
theorem cutB_nil {s : List UInt8} {c : UInt8} (h : 0 ≤ Lib.indexByte s c) : (cutB s c).length = (Lib.indexByte s c).toNat := by
  have := indexByte_lt (l := s) (c := c)
  unfold cutB; rw [if_pos h, List.length_take]; omega
theorem cutB_le {s : List UInt8} {c : UInt8} : (cutB s c).length ≤ s.length := by
  unfold cutB; split
  · rw [List.length_take]; omega
  · exact Nat.le_refl _
theorem mark_ne {c : UInt8} (h : 0 ≤ Lib.indexByte [124, 40, 41, 42, 63] c) : ((c.toNat : Nat) : Int) ≠ 0 := fun e => by
  have e1 : c.toNat = 0 := by omega
  have e2 : c = 0 := UInt8.toNat_inj.1 e1
  subst e2
  revert h; decide
theorem tokAt_len {a : List Letter} {sets : List SetT} {t : List UInt8} (h : 0 < t.length) : (tokAt a sets t).2.2 ≤ t.length := by
  have hb := bestN_le a t a.length
  have hx := indexByte_lt (l := t.drop 1) (c := 125)
  rw [List.length_drop] at hx
  unfold tokAt
  split
  · exact hb
  · split
    · exact h
    · split
      · exact h
      · split
        · exact h
        · split
          · exact h
          · split
            · exact Nat.zero_le _
            · next hc =>
              have hn : (nameB t).length = (Lib.indexByte (t.drop 1) 125).toNat := cutB_nil (by omega)
              split
              · show 2 ≤ t.length; omega
              · split
                · show (nameB t).length + 2 ≤ t.length; omega
                · exact Nat.zero_le _
theorem tk_next {a : List Letter} {sets : List SetT} {s : List UInt8} {k n m : Nat} {c : Int} {x : Rx} {acc L : List Tok} (hk : k < s.length) (hn : s.length - k ≤ n) (hacc : acc ++ tokN a sets s n k = L) (hl : acc.length ≤ k)
    (h : tokAt a sets (s.drop k) = (c, x, m)) (h0 : c ≠ 0) (hm : 0 < m) : k + m ≤ s.length ∧ s.length - (k + m) ≤ n - 1 ∧ (acc ++ [⟨c, x, k⟩]) ++ tokN a sets s (n - 1) (k + m) = L ∧ (acc ++ [(⟨c, x, k⟩ : Tok)]).length ≤ k + m := by
  have h1 := tokAt_len (a := a) (sets := sets) (t := s.drop k) (by rw [List.length_drop]; omega)
  rw [h, List.length_drop] at h1
  have h1' : m ≤ s.length - k := h1
  refine ⟨by omega, by omega, ?_, by simp; omega⟩
  obtain ⟨n, rfl⟩ : ∃ n', n = n' + 1 := ⟨n - 1, by omega⟩
  rw [← hacc, tokN_ok hk h h0, List.append_assoc]; rfl
theorem tk_bad {a : List Letter} {sets : List SetT} {s : List UInt8} {k n : Nat} {acc L : List Tok} (hk : k < s.length) (hn : s.length - k ≤ n) (hacc : acc ++ tokN a sets s n k = L) (h0 : (tokAt a sets (s.drop k)).1 = 0) : acc ++ [⟨0, noneRx, k⟩] = L := by
  obtain ⟨n, rfl⟩ : ∃ n', n = n' + 1 := ⟨n - 1, by omega⟩
  rw [← hacc, tokN_bad hk h0]
theorem tk_end {a : List Letter} {sets : List SetT} {s : List UInt8} {k n : Nat} {acc L : List Tok} (hk : s.length ≤ k) (hacc : acc ++ tokN a sets s n k = L) : acc ++ [⟨101, noneRx, k⟩] = L := by rw [← hacc, tokN_end hk]
end Go.Wb

namespace Go.Wc
open Go.Am Go.MapKept
abbrev keyT (x : Letter) : Value := .string ⟨x.text.toArray⟩
theorem keyT_inj {x y : Letter} : keyT x = keyT y ↔ x.text = y.text := by simp [keyT]
noncomputable def ixK (a : List Letter) : Nat → List Value
  | 0 => []
  | i + 1 => putK (ixK a i) (keyT (a.getD i default))
noncomputable def ixV (a : List Letter) : Nat → List AV
  | 0 => []
  | i + 1 => putV (ixK a i) (ixV a i) (keyT (a.getD i default)) (int i)
theorem ixK_isKey (a : List Letter) : ∀ i, ∀ u ∈ ixK a i, IsKey .string u
  | 0, u, h => by cases h
  | i + 1, u, h => by
    unfold ixK putK at h
    split at h
    · exact ixK_isKey a i u h
    · rw [List.mem_append] at h
      rcases h with h | h
      · exact ixK_isKey a i u h
      · simp only [List.mem_singleton] at h; subst h; trivial
theorem ixK_len (a : List Letter) : ∀ i, (ixK a i).length ≤ i
  | 0 => Nat.le_refl _
  | i + 1 => by
    have := ixK_len a i
    unfold ixK putK
    split
    · omega
    · simp; omega
theorem ixK_full {a : List Letter} : ∀ {i : Nat}, i ≤ a.length → (ixK a i).length = i → ixK a i = (a.take i).map keyT ∧ ixV a i = (List.range i).map (fun n : Nat => int n) ∧ ∀ j, j < i → ok3P a j
  | 0, _, _ => ⟨rfl, rfl, fun j hj => by omega⟩
  | i + 1, hi, h => by
    have hl := ixK_len a i
    unfold ixK putK at h
    unfold ixK ixV putK putV
    cases hp : kpos (ixK a i) (keyT (a.getD i default)) with
    | some j => rw [hp] at h; simp only [] at h; omega
    | none =>
      rw [hp] at h
      simp only [List.length_append, List.length_singleton] at h
      obtain ⟨h1, h2, h3⟩ := ixK_full (by omega : i ≤ a.length) (by omega)
      refine ⟨by rw [h1, take_succ (by omega), List.map_append]; rfl, by rw [h2, List.range_succ, List.map_append]; rfl, fun j hj => ?_⟩
      by_cases he : j = i
      · subst he
        intro k hk he
        have hn := kpos_none.1 hp
        rw [h1] at hn
        refine hn (List.mem_map.2 ⟨a.getD k default, ?_, keyT_inj.2 he⟩)
        rw [List.getD_eq_getElem?_getD, List.getElem?_eq_getElem (by omega)]
        exact List.mem_take_iff_getElem.2 ⟨k, by omega, rfl⟩
      · exact h3 j (by omega)
theorem ixK_not {a : List Letter} : ∀ {i : Nat}, i ≤ a.length → (ixK a i).length < i → ∃ j, j < i ∧ ¬ ok3P a j
  | 0, _, h => by omega
  | i + 1, hi, h => by
    rcases Nat.lt_or_ge (ixK a i).length i with h1 | h1
    · obtain ⟨j, hj, hn⟩ := ixK_not (by omega : i ≤ a.length) h1
      exact ⟨j, by omega, hn⟩
    · have hl := ixK_len a i
      obtain ⟨g1, _, _⟩ := ixK_full (by omega : i ≤ a.length) (by omega)
      unfold ixK putK at h
      cases hp : kpos (ixK a i) (keyT (a.getD i default)) with
      | none => rw [hp] at h; simp only [List.length_append, List.length_singleton] at h; omega
      | some q =>
        have hm := List.mem_of_getElem? (kpos_some hp)
        rw [g1, List.mem_map] at hm
        obtain ⟨x, hx, he⟩ := hm
        obtain ⟨k, hk, rfl⟩ := List.mem_take_iff_getElem.1 hx
        refine ⟨i, by omega, fun hok => hok k (by omega) ?_⟩
        rw [List.getD_eq_getElem?_getD (i := k), List.getElem?_eq_getElem (by omega)]
        exact keyT_inj.1 he
def indexAV (a : List Letter) : AV := if validA a = true then .mp (a.map keyT) ((List.range a.length).map fun n : Nat => int n) else .sc (.map none)
theorem indexAV_bad {a : List Letter} (h : validA a = false) : indexAV a = .sc (.map none) := by unfold indexAV; rw [h]; rfl
theorem indexAV_good {a : List Letter} {i : Nat} (h1 : 1 ≤ a.length ∧ a.length ≤ 60) (hi : i = a.length) (h : ∀ j, j < i → ok1P a (a.getD j default) ∧ ok2P (a.getD j default) j) (hn : ¬ (ixK a i).length < a.length) : indexAV a = .mp (ixK a i) (ixV a i) := by
  subst hi
  have hl := ixK_len a a.length
  obtain ⟨g1, g2, g3⟩ := ixK_full (Nat.le_refl a.length) (by omega)
  unfold indexAV
  rw [if_pos (validA_good (n := a.length) h1 (Nat.le_refl _) fun j hj => ⟨(h j hj).1, (h j hj).2, g3 j hj⟩), g1, g2, List.take_length]
theorem validA_dup {a : List Letter} {i : Nat} (hi : i = a.length) (h : (ixK a i).length < a.length) : validA a = false := by
  subst hi
  obtain ⟨j, hj, hn⟩ := ixK_not (Nat.le_refl _) h
  unfold validA
  rw [decide_eq_false]
  rintro ⟨_, h2⟩
  exact hn (h2 j hj).2.2
theorem resB_lt {c : UInt8} (h : (c.toNat : Int) < 33) : resB c = true := by
  unfold resB; rw [decide_eq_true (p := c.toNat < 33) (by omega), Bool.or_true]
theorem resB_ib {c : UInt8} (h : ¬ (c.toNat : Int) < 33) : resB c = decide (0 ≤ Lib.indexByte resL c) := by
  unfold resB; rw [decide_eq_false (p := c.toNat < 33) (by omega), Bool.or_false]; exact Lib.contains_iff_indexByte resL c
end Go.Wc

namespace Go.Wb
set_option linter.unusedVariables false
open Go.Am Go.Wc
theorem rising_len : ∀ {l : List Int} {m : Nat}, Srt leI l → (∀ x ∈ l, (m : Int) ≤ x ∧ x < 64) → l.length ≤ 64 - m
  | [], m, _, _ => Nat.zero_le _
  | x :: l, m, hs, h => by
    have h1 := h x List.mem_cons_self
    have h2 := List.pairwise_cons.1 hs
    have h3 := rising_len (l := l) (m := m + 1) h2.2 fun y hy => ⟨by
      have := h2.1 y hy
      have h4 := of_decide_eq_true this.1
      have h5 := this.2
      omega, (h y (List.mem_cons_of_mem _ hy)).2⟩
    rw [List.length_cons]; omega
theorem setOk_len {s : List Int} (h : setOk s = true) : s.length ≤ 64 := by
  have h1 := setOk_iff.1 h
  exact rising_len (m := 0) h1.2.1 fun x hx => h1.2.2 x hx
theorem one_nf {s : List Int} (h : setOk s = true) : Nf (oneR s) ∧ (oneR s).size ≤ 65 := by
  refine ⟨.set h, ?_⟩
  have := setOk_len h
  unfold oneR; rw [size_mk]; simp only [Rx.sizes]; omega
theorem range_ok {n : Nat} (h0 : 0 < n) (h : n ≤ 64) : setOk ((List.range n).map fun (k : Nat) => (k : Int)) = true := by
  refine setOk_iff.2 ⟨by simpa using h0, ?_, fun x hx => ?_⟩
  · refine List.pairwise_map.2 ((List.pairwise_lt_range).imp fun h => ⟨decide_eq_true (by omega), by omega⟩)
  · obtain ⟨k, hk, rfl⟩ := List.mem_map.1 hx
    have := List.mem_range.1 hk; omega
theorem sing_ok {x : Int} (h : 0 ≤ x ∧ x < 64) : setOk [x] = true := setOk_iff.2 ⟨Nat.succ_pos _, List.pairwise_singleton _ _, fun y hy => by rw [List.mem_singleton.1 hy]; exact h⟩
theorem none_nf : Nf noneRx ∧ noneRx.size ≤ 65 := ⟨.none, by decide⟩
theorem tokAt_ok {a : List Letter} {sets : List SetT} {t : List UInt8} (ha : 1 ≤ a.length ∧ a.length ≤ 60) : Nf (tokAt a sets t).2.1 ∧ (tokAt a sets t).2.1.size ≤ 65 := by
  unfold tokAt
  split
  · next h =>
    have := bestN_lt (a := a) (t := t) a.length
    exact one_nf (sing_ok (by omega))
  · split
    · exact one_nf (range_ok (by omega) (by omega))
    · split
      · exact one_nf (sing_ok (by decide))
      · split
        · exact one_nf (sing_ok (by decide))
        · split
          · exact none_nf
          · split
            · exact none_nf
            · split
              · exact none_nf
              · split
                · next h => exact one_nf h.2
                · exact none_nf
theorem endT_cons {t : Tok} {l : List Tok} (h : endT l) : endT (t :: l) := by
  obtain ⟨h0, h1⟩ := h
  refine ⟨by rw [List.length_cons]; omega, ?_⟩
  rw [List.length_cons, show l.length + 1 - 1 = (l.length - 1) + 1 by omega]
  exact h1
theorem tokN_good {a : List Letter} {sets : List SetT} {s : List UInt8} (ha : 1 ≤ a.length ∧ a.length ≤ 60) : ∀ n k, endT (tokN a sets s n k) ∧ TokOk (tokN a sets s n k) ∧ wtT (tokN a sets s n k) ≤ 69 * (n + 1)
  | 0, k => ⟨⟨by show 0 < 1; decide, .inr rfl⟩, ⟨fun t ht => by rw [List.mem_singleton.1 ht]; exact .none, fun t ht => by rw [List.mem_singleton.1 ht]; exact Int.natCast_nonneg k⟩, by show 1 + 0 + Rx.sizes [] + 4 + 0 ≤ _; rw [show Rx.sizes [] = 0 from rfl]; omega⟩
  | n + 1, k => by
    have one : ∀ c : Int, c = 0 ∨ c = 101 → endT [(⟨c, noneRx, k⟩ : Tok)] ∧ TokOk [(⟨c, noneRx, k⟩ : Tok)] ∧ wtT [(⟨c, noneRx, k⟩ : Tok)] ≤ 69 * (n + 1 + 1) := fun c hc =>
      ⟨⟨by show 0 < 1; decide, hc⟩, ⟨fun t ht => by rw [List.mem_singleton.1 ht]; exact .none, fun t ht => by rw [List.mem_singleton.1 ht]; exact Int.natCast_nonneg k⟩, by show 1 + 0 + Rx.sizes [] + 4 + 0 ≤ _; rw [show Rx.sizes [] = 0 from rfl]; omega⟩
    rw [tokN]
    split
    · split
      · exact one 0 (.inl rfl)
      · obtain ⟨h1, h2, h3⟩ := tokN_good (sets := sets) (s := s) ha n (k + (tokAt a sets (s.drop k)).2.2)
        obtain ⟨h4, h5⟩ := tokAt_ok (sets := sets) (t := s.drop k) ha
        refine ⟨endT_cons h1, ⟨fun t ht => ?_, fun t ht => ?_⟩, ?_⟩
        · rcases List.mem_cons.1 ht with rfl | ht
          · exact h4
          · exact h2.nf t ht
        · rcases List.mem_cons.1 ht with rfl | ht
          · exact Int.natCast_nonneg k
          · exact h2.pos t ht
        · rw [wtT]
          show (tokAt a sets (s.drop k)).2.1.size + 4 + _ ≤ _
          omega
    · exact one 101 (.inr rfl)
theorem validA_bd {a : List Letter} (h : validA a = true) : 1 ≤ a.length ∧ a.length ≤ 60 := (of_decide_eq_true (p := validP a) h).1
theorem toksP_ok {a : List Letter} {sets : List SetT} {s : List UInt8} (h : validA a = true) (hs : s.length ≤ 1024) : endT (toksP a sets s) ∧ TokOk (toksP a sets s) ∧ wtT (toksP a sets s) ≤ 274877906944 := by
  obtain ⟨h1, h2, h3⟩ := tokN_good (sets := sets) (s := s) (validA_bd h) s.length 0
  exact ⟨h1, h2, by unfold toksP; omega⟩
def parseP (a : List Letter) (sets : List SetT) (s : List UInt8) : Rx × Int := if validA a = false then (noneRx, 0) else if 1024 < s.length then (noneRx, 1024) else pTop (toksP a sets s)
theorem pTop_bad {l : List Tok} (h : 0 ≤ (finP (pAlt (pSeq (pPost l.length)) ⟨l, -1⟩).2).bad) : pTop l = (noneRx, (finP (pAlt (pSeq (pPost l.length)) ⟨l, -1⟩).2).bad) := if_pos h
theorem pTop_ok {l : List Tok} (h : ¬ 0 ≤ (finP (pAlt (pSeq (pPost l.length)) ⟨l, -1⟩).2).bad) : pTop l = ((pAlt (pSeq (pPost l.length)) ⟨l, -1⟩).1, -1) := if_neg h
end Go.Wb

namespace Go.Proofs
open Go.Shelf
def Tryz.lays156_ren : Go.Shelf.Ren := ⟨fun | 156 => 100 | 165 => 128 | 166 => 129 | 169 => 130 | 240 => 142 | 241 => 143 | 276 => 165 | 277 => 166 | n => n, fun | 31 => 111 | 9 => 9 | 3 => 3 | 4 => 4 | 0 => 0 | 20 => 20 | 72 => 135 | 76 => 139 | 70 => 133 | 37 => 45 | 75 => 138 | 127 => 150 | 164 => 166 | 5 => 5 | 80 => 141 | n => n, fun | n => n⟩
theorem Tryz.lays156 : Go.Proofs.Lays.n156 Tryz.prog Tryz.lays156_ren := {
  mixed := by kernel_rfl
  f156 := Tryz.func100.trans (congrArg some (by kernel_rfl))
  f165 := Tryz.func128.trans (congrArg some (by kernel_rfl))
  f166 := Tryz.func129.trans (congrArg some (by kernel_rfl))
  f169 := Tryz.func130.trans (congrArg some (by kernel_rfl))
  f240 := Tryz.func142.trans (congrArg some (by kernel_rfl))
  f241 := Tryz.func143.trans (congrArg some (by kernel_rfl))
  f276 := Tryz.func165.trans (congrArg some (by kernel_rfl))
  f277 := Tryz.func166.trans (congrArg some (by kernel_rfl))
  t0 := Tryz.underlying0
  a0 := Tryz.isAgg0
  z0 := Tryz.sizeOf0
  v0 := Tryz.zeroValue0
  t3 := Tryz.underlying3
  a3 := Tryz.isAgg3
  z3 := Tryz.sizeOf3
  v3 := Tryz.zeroValue3
  t4 := Tryz.underlying4
  a4 := Tryz.isAgg4
  z4 := Tryz.sizeOf4
  v4 := Tryz.zeroValue4
  t9 := Tryz.underlying9
  a9 := Tryz.isAgg9
  z9 := Tryz.sizeOf9
  v9 := Tryz.zeroValue9
  t20 := Tryz.underlying20
  a20 := Tryz.isAgg20
  z20 := Tryz.sizeOf20
  v20 := Tryz.zeroValue20
  t31 := Tryz.underlying111
  a31 := Tryz.isAgg111
  z31 := Tryz.sizeOf111
  v31 := Tryz.zeroValue111
  t37 := Tryz.underlying45
  a37 := Tryz.isAgg45
  z37 := Tryz.sizeOf45
  v37 := Tryz.zeroValue45
  t70 := Tryz.underlying133
  a70 := Tryz.isAgg133
  z70 := Tryz.sizeOf133
  v70 := Tryz.zeroValue133
  t72 := Tryz.underlying135
  a72 := Tryz.isAgg135
  z72 := Tryz.sizeOf135
  v72 := Tryz.zeroValue135
  t75 := Tryz.underlying138
  a75 := Tryz.isAgg138
  z75 := Tryz.sizeOf138
  v75 := Tryz.zeroValue138
  t76 := Tryz.underlying139
  a76 := Tryz.isAgg139
  z76 := Tryz.sizeOf139
  v76 := Tryz.zeroValue139
  t127 := Tryz.underlying150
  a127 := Tryz.isAgg150
  z127 := Tryz.sizeOf150
  v127 := Tryz.zeroValue150
  t164 := Tryz.underlying166
  a164 := Tryz.isAgg166
  z164 := Tryz.sizeOf166
  v164 := Tryz.zeroValue166 }
theorem Tryz.Builder_Extra_156 : Builder.Extra Tryz.prog Tryz.lays156_ren := {
  sizeBuilder := by kernel_rfl
  liesBuilder := by kernel_rfl
  t5 := Tryz.underlying5
  a5 := Tryz.isAgg5
  z5 := Tryz.sizeOf5
  v5 := Tryz.zeroValue5
  infoByte := by kernel_rfl
  cellsByte := by kernel_rfl
  sizeByte := by kernel_rfl
  neB5 := by decide }
end Go.Proofs

