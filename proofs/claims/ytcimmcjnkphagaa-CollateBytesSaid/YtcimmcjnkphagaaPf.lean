/-
  Plain functions: the index of an alphabet by texts.
-/
import Derived.Test.YtcimmcjnkphagaaPe
import Derived.Lib.IndexAny
namespace Go.Wb
open Go.Am Go.MapKept
abbrev keyT (x : Letter) : Value := .string ⟨x.text.toArray⟩
theorem keyT_inj {x y : Letter} : keyT x = keyT y ↔ x.text = y.text := by simp [keyT]
noncomputable def ixK (a : List Letter) : Nat → List Value
  | 0 => []
  | i + 1 => putK (ixK a i) (keyT (a.getD i default))
noncomputable def ixV (a : List Letter) : Nat → List AV
  | 0 => []
  | i + 1 => putV (ixK a i) (ixV a i) (keyT (a.getD i default)) (int i)
theorem ixK_isKey (a : List Letter) : ∀ i, ∀ u ∈ ixK a i, IsKey .string u
  | 0, u, h => by cases h
  | i + 1, u, h => by
    unfold ixK putK at h
    split at h
    · exact ixK_isKey a i u h
    · rw [List.mem_append] at h
      rcases h with h | h
      · exact ixK_isKey a i u h
      · simp only [List.mem_singleton] at h; subst h; trivial
theorem ixK_len (a : List Letter) : ∀ i, (ixK a i).length ≤ i
  | 0 => Nat.le_refl _
  | i + 1 => by
    have := ixK_len a i
    unfold ixK putK
    split
    · omega
    · simp; omega
theorem ixK_full {a : List Letter} : ∀ {i : Nat}, i ≤ a.length → (ixK a i).length = i → ixK a i = (a.take i).map keyT ∧ ixV a i = (List.range i).map (fun n : Nat => int n) ∧ ∀ j, j < i → ok3P a j
  | 0, _, _ => ⟨rfl, rfl, fun j hj => by omega⟩
  | i + 1, hi, h => by
    have hl := ixK_len a i
    unfold ixK putK at h
    unfold ixK ixV putK putV
    cases hp : kpos (ixK a i) (keyT (a.getD i default)) with
    | some j => rw [hp] at h; simp only [] at h; omega
    | none =>
      rw [hp] at h
      simp only [List.length_append, List.length_singleton] at h
      obtain ⟨h1, h2, h3⟩ := ixK_full (by omega : i ≤ a.length) (by omega)
      refine ⟨by rw [h1, take_succ (by omega), List.map_append]; rfl, by rw [h2, List.range_succ, List.map_append]; rfl, fun j hj => ?_⟩
      by_cases he : j = i
      · subst he
        intro k hk he
        have hn := kpos_none.1 hp
        rw [h1] at hn
        refine hn (List.mem_map.2 ⟨a.getD k default, ?_, keyT_inj.2 he⟩)
        rw [List.getD_eq_getElem?_getD, List.getElem?_eq_getElem (by omega)]
        exact List.mem_take_iff_getElem.2 ⟨k, by omega, rfl⟩
      · exact h3 j (by omega)
theorem ixK_not {a : List Letter} : ∀ {i : Nat}, i ≤ a.length → (ixK a i).length < i → ∃ j, j < i ∧ ¬ ok3P a j
  | 0, _, h => by omega
  | i + 1, hi, h => by
    rcases Nat.lt_or_ge (ixK a i).length i with h1 | h1
    · obtain ⟨j, hj, hn⟩ := ixK_not (by omega : i ≤ a.length) h1
      exact ⟨j, by omega, hn⟩
    · have hl := ixK_len a i
      obtain ⟨g1, _, _⟩ := ixK_full (by omega : i ≤ a.length) (by omega)
      unfold ixK putK at h
      cases hp : kpos (ixK a i) (keyT (a.getD i default)) with
      | none => rw [hp] at h; simp only [List.length_append, List.length_singleton] at h; omega
      | some q =>
        have hm := List.mem_of_getElem? (kpos_some hp)
        rw [g1, List.mem_map] at hm
        obtain ⟨x, hx, he⟩ := hm
        obtain ⟨k, hk, rfl⟩ := List.mem_take_iff_getElem.1 hx
        refine ⟨i, by omega, fun hok => hok k (by omega) ?_⟩
        rw [List.getD_eq_getElem?_getD (i := k), List.getElem?_eq_getElem (by omega)]
        exact keyT_inj.1 he
def indexAV (a : List Letter) : AV := if validA a = true then .mp (a.map keyT) ((List.range a.length).map fun n : Nat => int n) else .sc (.map none)
theorem indexAV_bad {a : List Letter} (h : validA a = false) : indexAV a = .sc (.map none) := by unfold indexAV; rw [h]; rfl
theorem indexAV_good {a : List Letter} {i : Nat} (h1 : 1 ≤ a.length ∧ a.length ≤ 60) (hi : i = a.length) (h : ∀ j, j < i → ok1P a (a.getD j default) ∧ ok2P (a.getD j default) j) (hn : ¬ (ixK a i).length < a.length) : indexAV a = .mp (ixK a i) (ixV a i) := by
  subst hi
  have hl := ixK_len a a.length
  obtain ⟨g1, g2, g3⟩ := ixK_full (Nat.le_refl a.length) (by omega)
  unfold indexAV
  rw [if_pos (validA_good (n := a.length) h1 (Nat.le_refl _) fun j hj => ⟨(h j hj).1, (h j hj).2, g3 j hj⟩), g1, g2, List.take_length]
theorem validA_dup {a : List Letter} {i : Nat} (hi : i = a.length) (h : (ixK a i).length < a.length) : validA a = false := by
  subst hi
  obtain ⟨j, hj, hn⟩ := ixK_not (Nat.le_refl _) h
  unfold validA
  rw [decide_eq_false]
  rintro ⟨_, h2⟩
  exact hn (h2 j hj).2.2
theorem resB_lt {c : UInt8} (h : (c.toNat : Int) < 33) : resB c = true := by
  unfold resB; rw [decide_eq_true (p := c.toNat < 33) (by omega), Bool.or_true]
theorem resB_ib {c : UInt8} (h : ¬ (c.toNat : Int) < 33) : resB c = decide (0 ≤ Lib.indexByte resL c) := by
  unfold resB; rw [decide_eq_false (p := c.toNat < 33) (by omega), Bool.or_false]; exact Lib.contains_iff_indexByte resL c
end Go.Wb
