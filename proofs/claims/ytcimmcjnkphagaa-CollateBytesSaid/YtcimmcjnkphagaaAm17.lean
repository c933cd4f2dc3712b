/-
  A local variable that holds nil becomes one that holds an array of the call's own.
-/
import Derived.Test.YtcimmcjnkphagaaAm16
namespace Go.Am
open Go.RowKit
set_option linter.unusedVariables false
section
variable {P : Program} {w0 : World} {M0 : Nat → Prop} {s : St}
theorem imp_nilown (b j K : Nat) (e eb : TypeId) {cs : List SV} (hM0 : ∀ b, M0 b → b < w0.heap.size) (hnd : Nodup s.s = true) (hb : (s.upd true K (.arr e [])).o.lookup b = some (.box eb cs)) (hj : cs[j]? = some (.v .pl (.sc (.slice none 0 0))))
    (hnd' : Nodup (s.upd true K (.arr e [])).s = true) : Imp P w0 M0 s ((s.upd true K (.arr e [])).upd false b (.box eb ((keepC b cs).set j (.own K)))) := by
  rintro a w ⟨E, hs⟩
  have h1 := hs.newArr (t := K) (e := e) (xs := []) (v := .slice none 0 0) hnd hM0 (w' := w) ⟨rfl, rfl, rfl, Nat.le_refl _, fun _ _ _ => rfl⟩ (Nat.le_refl _) (vals := []) (World.ownsRow_nil w _ _ _) (fun b hb => by cases hb) (fun x hx => by cases hx) (fun j d hd => by simp [flat] at hd)
  generalize hE1 : ({ E with cur := fun i => if i = K then .slice none 0 0 else E.cur i } : Env) = E1 at h1
  have hc : E1.cur K = .slice none 0 0 := by rw [← hE1]; simp
  refine ⟨E1, h1.upd false (fun _ => ⟨rfl, .inr (.inl ⟨eb, cs, _, hb, rfl⟩)⟩) hnd' hM0 (fun i hi => ⟨rfl, rfl⟩) none ⟨rfl, rfl, rfl, Nat.le_refl _, fun _ _ _ => rfl⟩ (Nat.le_refl _) (fun g hg => by cases hg) (fun b' hb' => .inl ⟨_, hb, hb'⟩) (fun rep sv => ?_)⟩
  obtain ⟨vals, g1, g2, g3, g4⟩ := h1.wok.objs b _ hb
  refine ⟨vals, g1, g2, by simpa [keepC] using g3, fun i d hd => ?_⟩
  by_cases hi : j = i
  · subst hi
    have hjl : j < cs.length := (List.getElem?_eq_some_iff.1 hj).1
    rw [List.getElem?_set_self (by simpa [keepC] using hjl)] at hd
    simp only [Option.some.injEq] at hd
    subst hd
    have := g4 j _ hj
    refine ⟨rfl, this.2.1, fun e' xs' _ => ?_⟩
    rw [hc]
    have h5 : Rep w _ (vals.getD j undef) (.sc (.slice none 0 0)) := this.2.2
    generalize vals.getD j undef = u at h5 ⊢
    cases h5; rfl
  · rw [List.getElem?_set_ne hi] at hd
    simp only [keepC, List.getElem?_map, Option.map_eq_some_iff] at hd
    obtain ⟨d0, hd0, rfl⟩ := hd
    have := g4 i d0 hd0
    split
    · exact ⟨this.1, this.2.1, sv _ _ this.2.2 ‹_›⟩
    · exact ⟨rfl, this.2.1, trivial⟩
theorem code_nilown {y : Code} {Q : Exit → St → Prop} (b j K : Nat) (e eb : TypeId) {cs : List SV} (hM0 : ∀ b, M0 b → b < w0.heap.size) (hnd : Nodup s.s = true) (hb : (s.upd true K (.arr e [])).o.lookup b = some (.box eb cs)) (hj : cs[j]? = some (.v .pl (.sc (.slice none 0 0))))
    (hnd' : Nodup (s.upd true K (.arr e [])).s = true) (h : CodeOk P w0 M0 y ((s.upd true K (.arr e [])).upd false b (.box eb ((keepC b cs).set j (.own K)))) Q) : CodeOk P w0 M0 y s Q :=
  CodeOk.imp (imp_nilown b j K e eb hM0 hnd hb hj hnd') h
end
end Go.Am
