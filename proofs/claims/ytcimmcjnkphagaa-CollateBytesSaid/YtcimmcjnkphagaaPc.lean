/-
  Plain functions: valid alphabets.
-/
import Derived.Test.YtcimmcjnkphagaaPb
namespace Go.Wb
open Go.Am
abbrev byte (c : UInt8) : AV := .sc (.int .u8 c.toNat)
abbrev resL : List UInt8 := [48, 49, 50, 51, 52, 53, 54, 55, 56, 57, 45, 35, 46, 124, 40, 41, 42, 63, 123, 125, 62, 47, 95, 126, 59, 58, 44, 61, 34, 64]
def resB (c : UInt8) : Bool := resL.contains c || decide (c.toNat < 33)
theorem resB_hit {c : UInt8} {k : Nat} (hk : k < 30) (h : ((resL.getD k 0).toNat : Int) = c.toNat) : resB c = true := by
  have h1 : resL.getD k 0 = c := UInt8.toNat_inj.1 (Int.ofNat_inj.1 h)
  unfold resB
  have : resL.contains c = true := by
    rw [List.contains_iff_mem, ← h1, List.getD_eq_getElem?_getD, List.getElem?_eq_getElem (show k < resL.length from hk)]
    exact List.getElem_mem _
  rw [this]; rfl
theorem resB_step {c : UInt8} {k : Nat} (hk : k < 30) (h0 : (resL.take k).contains c = false) (h : ¬ ((resL.getD k 0).toNat : Int) = c.toNat) : (resL.take (k + 1)).contains c = false := by
  rw [take_succ (show k < resL.length from hk)]
  have h1 : ¬ resL.getD k 0 = c := fun e => h (by rw [e])
  have h2 : (resL.getD k default) = resL.getD k 0 := rfl
  rw [h2]
  cases hc : (resL.take k ++ [resL.getD k 0]).contains c
  · rfl
  · rw [List.contains_iff_mem, List.mem_append] at hc
    rcases hc with hc | hc
    · rw [← List.contains_iff_mem, h0] at hc; cases hc
    · simp only [List.mem_singleton] at hc
      exact absurd hc.symm h1
theorem resB_end {c : UInt8} {k : Nat} (hk : 30 ≤ k) (h0 : (resL.take k).contains c = false) : resB c = decide ((c.toNat : Int) < 33) := by
  rw [List.take_of_length_le (show resL.length ≤ k from hk)] at h0
  unfold resB
  rw [h0, Bool.false_or]
  congr 1
  apply propext; omega
def plainT (s : List UInt8) : Bool := s.all (fun c => !resB c) && decide (1 ≤ s.length) && decide (s.length ≤ 4)
theorem plainT_hit {s : List UInt8} {k : Nat} (hk : k < s.length) (h : resB (s.getD k 0) = true) : plainT s = false := by
  unfold plainT
  have : s.all (fun c => !resB c) = false := by
    rw [List.all_eq_false]
    refine ⟨s[k], List.getElem_mem hk, ?_⟩
    rw [List.getD_eq_getElem?_getD, List.getElem?_eq_getElem hk] at h
    simp only [Option.getD_some] at h
    simp [h]
  rw [this]; rfl
theorem plainT_step {s : List UInt8} {k : Nat} (hk : k < s.length) (h0 : (s.take k).all (fun c => !resB c) = true) (h : resB (s.getD k 0) = false) : (s.take (k + 1)).all (fun c => !resB c) = true := by
  rw [take_succ hk, List.all_append, h0]
  have h2 : s.getD k default = s.getD k 0 := rfl
  rw [h2, List.all_cons, h]; rfl
theorem plainT_end {s : List UInt8} {k : Nat} (hk : s.length ≤ k) (h0 : (s.take k).all (fun c => !resB c) = true) : plainT s = (decide (1 ≤ s.length) && decide (s.length ≤ 4)) := by
  rw [List.take_of_length_le hk] at h0
  unfold plainT
  rw [h0, Bool.true_and]

/-- What is asked of the i-th letter. -/
def ok1P (a : List Letter) (x : Letter) : Prop :=
  plainT x.text = true ∧ 0 ≤ x.base ∧ x.base < a.length ∧ (a.getD x.base.toNat default).base = x.base ∧ 0 ≤ x.mark ∧ x.mark ≤ 15 ∧ 0 ≤ x.cap ∧ x.cap ≤ 1 ∧ 1 ≤ x.width ∧ x.width ≤ 1000
def ok2P (x : Letter) (i : Nat) : Prop := x.base = i → x.mark = 0 ∧ x.cap = 0
def ok3P (a : List Letter) (i : Nat) : Prop := ∀ k, k < i → (a.getD k default).text ≠ (a.getD i default).text
def okP (a : List Letter) (i : Nat) : Prop := ok1P a (a.getD i default) ∧ ok2P (a.getD i default) i ∧ ok3P a i
instance (a : List Letter) (x : Letter) : Decidable (ok1P a x) := by unfold ok1P; infer_instance
instance (x : Letter) (i : Nat) : Decidable (ok2P x i) := by unfold ok2P; infer_instance
instance (a : List Letter) (i : Nat) : Decidable (ok3P a i) := by unfold ok3P; infer_instance
instance (a : List Letter) (i : Nat) : Decidable (okP a i) := by unfold okP; infer_instance
def validP (a : List Letter) : Prop := (1 ≤ a.length ∧ a.length ≤ 60) ∧ ∀ i, i < a.length → okP a i
instance (a : List Letter) : Decidable (validP a) := by unfold validP; infer_instance
def validA (a : List Letter) : Bool := decide (validP a)
theorem validA_size {a : List Letter} (h : a.length < 1 ∨ 60 < a.length) : validA a = false := by
  unfold validA; rw [decide_eq_false]; rintro ⟨h1, _⟩; omega
theorem validA_bad1 {a : List Letter} {i : Nat} (hi : i < a.length) (h : ¬ ok1P a (a.getD i default)) : validA a = false := by
  unfold validA; rw [decide_eq_false]; rintro ⟨_, h2⟩; exact h (h2 i hi).1
theorem validA_bad2 {a : List Letter} {i : Nat} (hi : i < a.length) (h : ¬ ok2P (a.getD i default) i) : validA a = false := by
  unfold validA; rw [decide_eq_false]; rintro ⟨_, h2⟩; exact h (h2 i hi).2.1
theorem validA_bad3 {a : List Letter} {i k : Nat} (hi : i < a.length) (hk : k < i) (h : (a.getD k default).text = (a.getD i default).text) : validA a = false := by
  unfold validA; rw [decide_eq_false]; rintro ⟨_, h2⟩; exact (h2 i hi).2.2 k hk h
theorem validA_good {a : List Letter} {n : Nat} (h1 : 1 ≤ a.length ∧ a.length ≤ 60) (hn : a.length ≤ n) (h : ∀ i, i < n → okP a i) : validA a = true := by
  unfold validA; rw [decide_eq_true]; exact ⟨h1, fun i hi => h i (by omega)⟩
theorem okP_step {a : List Letter} {i : Nat} {k : Nat} (hk : i ≤ k) (h : ∀ j, j < i → okP a j) (h1 : ok1P a (a.getD i default)) (h2 : ok2P (a.getD i default) i) (h3 : ∀ j, j < k → (a.getD j default).text ≠ (a.getD i default).text) : ∀ j, j < i + 1 → okP a j := by
  intro j hj
  by_cases he : j = i
  · subst he; exact ⟨h1, h2, fun k' hk' => h3 k' (by omega)⟩
  · exact h j (by omega)
theorem lt_step {p : Nat → Prop} {k : Nat} (h : ∀ j, j < k → p j) (hk : p k) : ∀ j, j < k + 1 → p j := by
  intro j hj
  by_cases he : j = k
  · subst he; exact hk
  · exact h j (by omega)
abbrev lcells (c : Cls) (x : Letter) : List SV := [.v c (sbytes x.text), .v c (int x.base), .v c (int x.mark), .v c (int x.cap), .v c (int x.width)]
end Go.Wb
