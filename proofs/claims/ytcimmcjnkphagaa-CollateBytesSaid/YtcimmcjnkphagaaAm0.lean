/-
  A run draws no fewer answers behind it than ahead of it.
-/
import Derived.WalkKit
import Derived.Below
namespace Go.Am
open Go.RowKit
set_option linter.unusedVariables false
theorem drawn_setCell (w : World) (a : Addr) (v : Value) : (w.setCell a v).drawn = w.drawn := by
  unfold World.setCell; split <;> rfl
theorem drawn_freeze (w : World) (a : Addr) (n : Nat) : (w.freeze a n).drawn = w.drawn := by
  unfold World.freeze; split <;> rfl
theorem drawn_ask {α : Type} : ∀ (q : Ask α) (w : World), w.drawn ≤ (w.ask q).2.drawn := by
  intro q
  induction q with
  | done a => intro w; exact Nat.le_refl _
  | ask what range k ih =>
    intro w
    unfold World.ask
    simp only []
    split
    · exact ih _ _
    · exact Nat.le_trans (Nat.le_succ _) (ih _ { w with drawn := w.drawn + 1 })
theorem drawn_sys (w : World) (c : Sys) : w.drawn ≤ (w.sys c).2.drawn := by
  have := drawn_ask (Kernel.perform c w.os) w
  unfold World.sys
  split
  · exact Nat.le_refl _
  · rename_i h
    rw [h] at this
    exact this
theorem drawn_farStore {p : Program} {w : World} {a : Addr} {v : Value} {b : Bool} {w' : World} {l : List Addr} (h : w.farStore p a v b = .ok (w', l)) : w'.drawn = w.drawn := by
  unfold World.farStore at h
  split at h
  · split at h
    · simp only [Except.ok.injEq] at h
      subst h
      rename_i r hr
      unfold World.viewStore at hr
      simp only [bind, Except.bind, pure, Except.pure] at hr
      (repeat' (split at hr)) <;> first | (cases hr; done) | (cases hr; rfl)
    · cases h
  · cases h
theorem run_drawn {α : Type} {P : Program} : ∀ (m : Sem α) (w : World) (v : α) (w' : World), m.run P w = .ok v w' → w.drawn ≤ w'.drawn := by
  intro m
  induction m with
  | pure a => intro w v w' h; simp only [Sem.run, Result.ok.injEq] at h; rw [h.2]; exact Nat.le_refl _
  | load md a k ih =>
    intro w v w' h
    simp only [Sem.run] at h
    split at h
    · exact ih _ _ _ _ h
    · split at h
      · exact ih _ _ _ _ h
      · cases h
  | store md a u k ih =>
    intro w v w' h
    have key : ∀ q : Result α, q = .ok v w' → q = (match w.cell? a with
        | some _ => if w.frozen? a then Result.halt (.unsupported (.unsafePointer "a write to bytes that a string shares")) w else k.run P (w.setCell a u)
        | none => match w.farStore P a u (md == .atomic) with
          | .ok (w, _) => k.run P w
          | .error h => .halt h w) → w.drawn ≤ w'.drawn := by
      intro q hq hd
      rw [hq] at hd
      split at hd
      · split at hd
        · cases hd
        · exact Nat.le_trans (Nat.le_of_eq (drawn_setCell _ _ _).symm) (ih _ _ _ hd.symm)
      · split at hd
        · rename_i hf
          exact Nat.le_trans (Nat.le_of_eq (drawn_farStore hf).symm) (ih _ _ _ hd.symm)
        · cases hd
    cases u <;> first | exact key _ h rfl | (cases h; done)
  | new o k ih => intro w v w' h; have := ih _ { w with heap := w.heap.push o } _ _ h; exact this
  | shape r k ih => intro w v w' h; exact ih _ _ _ _ h
  | freeze a n k ih => intro w v w' h; exact Nat.le_trans (Nat.le_of_eq (drawn_freeze _ _ _).symm) (ih _ _ _ h)
  | frozen a k ih => intro w v w' h; exact ih _ _ _ _ h
  | getObj r k ih =>
    intro w v w' h
    simp only [Sem.run] at h
    split at h
    · cases h
    · exact ih _ _ _ _ h
    · cases h
  | setObj r o k ih =>
    intro w v w' h
    simp only [Sem.run] at h
    split at h
    · cases h
    · have := ih { w with heap := w.heap.setIfInBounds r o } _ _ h; exact this
    · cases h
  | choose q k ih =>
    intro w v w' h
    simp only [Sem.run] at h
    split at h
    · exact ih _ _ _ _ h
    · have := ih _ _ _ _ h
      simp only at this; omega
  | sys c k ih =>
    intro w v w' h
    exact Nat.le_trans (drawn_sys _ _) (ih _ _ _ _ h)
  | program k ih => intro w v w' h; exact ih _ _ _ _ h
  | mark m k ih => intro w v w' h; exact ih _ _ _ h
  | halt x => intro w v w' h; cases h
end Go.Am
