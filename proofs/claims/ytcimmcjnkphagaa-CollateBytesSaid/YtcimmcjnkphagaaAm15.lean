/-
  Bytes and strings.
-/
import Derived.Test.YtcimmcjnkphagaaAm14
import Derived.Laws.BytesArg
namespace Go.Am
open Go.RowKit
set_option linter.unusedVariables false
def numsOf : List AV → Option (List Int)
  | [] => some []
  | .sc (.int .u8 n) :: r => match numsOf r with
    | some l => some (n :: l)
    | none => none
  | _ => none
theorem numsOf_spec : ∀ {xs : List AV} {l : List Int}, numsOf xs = some l → xs = l.map fun n => .sc (.int .u8 n)
  | [], l, h => by simp only [numsOf, Option.some.injEq] at h; subst h; rfl
  | x :: r, l, h => by
    unfold numsOf at h
    split at h
    · rename_i heq; cases heq
    · rename_i n r' heq
      cases heq
      split at h
      · rename_i l' hl
        simp only [Option.some.injEq] at h
        subst h
        rw [List.map_cons, ← numsOf_spec hl]
      · cases h
    · cases h
theorem flat_sc {α : Type} (f : α → Value) (l : List α) : flat (l.map fun x => .sc (f x)) = l.map fun x => .sc (f x) := by
  induction l with
  | nil => rfl
  | cons a r ih => simp only [List.map_cons, flat, List.flatMap_cons] at ih ⊢; rw [ih]; rfl
section
variable {P : Program} {w0 : World} {M0 : Nat → Prop}
variable {o : Oper} {ρ : Operand → Option SV} {ob : List (Nat × Ob)} {x : Operand} {T T' e : TypeId} {c : Cls} {xs : List AV} {l : List Int}
theorem pure_btos (ho : o.op = .convert T T' x) (hT : P.underlying T = some (.slice e)) (he : P.underlying e = some (.int .u8)) (hT' : P.underlying T' = some .string) (hx : viewAt ρ ob x = some (c, .sl xs)) (hn : numsOf xs = some l) :
    Pure P w0 M0 o ρ ob (.v .pl (sbytes (l.map fun n => UInt8.ofNat n.toNat))) :=
  pure_value fun E w ev hw h => by
    have hr := viewAt_ok hw h hx
    have hxs := numsOf_spec hn
    subst hxs
    generalize hq : ev x = q at hr
    cases hr with
    | sl a n cap _ k cv hn' hc hk hb hl hr =>
      refine ⟨.string (strOfNums l), w, ?_, .refl _ _, .sc _ rfl⟩
      simp only [List.length_map] at hn'
      rw [flat_sc] at hr
      have key : ∀ dst, P.underlying dst = some .string → (convert T dst (.slice a n cap)).run P w = .ok (.string (strOfNums l)) w := by
        rcases Nat.eq_zero_or_pos n with h0 | h0
        · intro dst hd
          have hl0 : l = [] := List.eq_nil_of_length_eq_zero (by omega)
          subst h0 hl0
          cases a with
          | none => exact run_convert_bytes_nil (P := P) w T e hT he 0 cap dst hd
          | some ad => rw [run_convert_bytes_string w T dst e _ 0 cap hT he hd, run_bytesToString w ad 0 cap [] (by simpa using run_loadCells_list (P := P) w ad [] (by simp))]; rfl
        · obtain ⟨b, off, rfl, _, _, hcell⟩ := hb h0
          have hk1 : k = 1 := by
            cases l with
            | nil => simp at hn'; omega
            | cons z r => exact (hk _ (by rw [List.map_cons]; exact List.mem_cons_self)).symm
          subst hk1
          refine run_convert_bytes_arg (P := P) w T e hT he b off n cap l hn' (fun i hi => ?_)
          rw [hcell i (by omega)]
          have := hr i (.sc (.int .u8 (l[i]'(by omega)))) (by rw [List.getElem?_map, List.getElem?_eq_getElem (by omega)]; rfl)
          generalize cv i = u at this
          cases this
          simp [List.getD_eq_getElem?_getD, List.getElem?_eq_getElem (show i < l.length by omega)]
      simp [execOp, ho, hq, key T' hT']
theorem src_take {α : Type} {s : St} {y : Operand} {f : α → AV} {l : List α} {n : Nat} (hy : viewAt s.ev s.o y = some (c, .sl ((l.map f).take n))) (hf : ∀ x, ∃ v, f x = .sc v) : Src P w0 M0 s y 1 ((l.take n).map f) := by
  rw [← List.map_take] at hy
  exact src_scm hy hf
end
end Go.Am
