/-
  Plain functions: the law on canonical automata, in the words of the program.
-/
import Derived.Test.YtjimlkpfmbachaaJ25
import Derived.Shelf.SlicesQ.Reverse
import Derived.Test.YtjimlkpfmbachaaRows
import Derived.Shelf.SlGeneric
import Derived.Ground.SlgnProg
import Derived.Shelf.SlicesG.Reverse
import Derived.Test.YtjimlkpfmbachaaJ24
import Derived.Test.YtjimlkpfmbachaaJ18
import Derived.Test.YtjimlkpfmbachaaJ10
import Derived.Test.YtjimlkpfmbachaaJ20
import Derived.Test.YtjimlkpfmbachaaJ19
set_option linter.unusedVariables false
set_option linter.unusedSectionVars false
set_option linter.unusedSimpArgs false
namespace Go.Am
open Go.RowKit Go.Sort Go.Proofs
set_option linter.unusedVariables false
structure RevK (P : Program) (f : FuncId) (k : Nat) : Prop where
  callable : Callable P f
  none : ∀ (p : Option Addr) (cap : Nat) (w : World), Calls P f #[.slice p 0 cap] w fun e w' => e = .returned (.tuple #[]) ∧ w' = w
  some : ∀ {α : Type} [Inhabited α] (enc : α → List Value) (hk : ∀ x, (enc x).length = k) (h1 : ∀ x, ∀ v ∈ enc x, v.oneCell' = true) (blk off cap : Nat) (d : Array α) (w : World) (hH : HoldsK enc k w blk off d) (hsz : d.size ≤ 9223372036854775807),
    Calls P f #[.slice (.some ⟨blk, off, .none⟩) d.size cap] w fun e w' => e = .returned (.tuple #[]) ∧ ∃ n, w' = putRowK enc k (Sort.ahead w n) blk off d.reverse
section
variable {P : Program} {w0 : Fr} {M0 : Nat → Prop}
variable {o : Oper} {s : St} {x y : Operand} {T T' e : TypeId} {c : Cls} {id t k : Nat}
theorem step_revK {β : Type} {cells : β → List AV} {l : List β} {f : FuncId} {ats : Array TypeId} (hS : RevK P f k) (ho : o.op = .call { callee := .value (.func f), args := #[x], argTypes := ats }) (hd : o.dst = some t) (hn : Nat.blt t s.n = true)
    (hnd : Nodup s.s = true) (hx : s.ev x = some (.own id)) (hl : s.o.lookup id = some (.arr e (l.map fun z => .agg (cells z)))) (hk : szOf P e = some k) (hk0 : 0 < k)
    (hsz : l.length < 4611686018427387904) (hM0 : ∀ b, M0 b → b < w0.w.heap.size) :
    Step P w0 M0 o s ((s.upd false id (.arr e (l.reverse.map fun z => .agg (cells z)))).put t (.v .pl (.tup []))) := by
  rintro a w Q ⟨E, hs⟩
  have hxv := hs.ev hx _ _ hl
  have hob := hs.wok.objs id _ hl
  obtain ⟨vals, ⟨hown, hownF⟩, hcl, hrp⟩ := hob
  have hck := cellsOf_of hk
  have hxl : (l.map fun z => AV.agg (cells z)).length = l.length := by simp
  have hvlen : vals.length = l.length * k := by have := hown.1; rw [hck] at this; simpa using this
  have hcells : ∀ z ∈ l, (cells z).length = k := fun z hz => by have := hcl _ (List.mem_map_of_mem hz); rw [hck] at this; exact this
  have hclk : ∀ x ∈ (l.map fun z => AV.agg (cells z)), (AV.cells x).length = k := fun x hx => by rw [← hck]; exact hcl x hx
  have hfl : ∀ (i j : Nat) (hi : i < l.length), j < k → (flat (l.map fun z => AV.agg (cells z)))[i * k + j]? = (cells l[i])[j]? := fun i j hi hj => by
    rw [flat_get _ i (.agg (cells l[i])) hclk (by rw [List.getElem?_map, List.getElem?_eq_getElem hi]; rfl) j hj]; rfl
  · skip
    have hrun : (execOp a.eval o).run P w = .ok (.enter f #[E.cur id]) w := by
      have := run_call (P := P) (ev := a.eval) (w := w) (caps := #[]) ho rfl hS.callable
      simpa [hxv] using this
    unfold Oper.wp
    rw [hrun]
    simp only [Oper.upon]
    rcases hown.2 with ⟨hv, hn0⟩ | ⟨gb, cap, cur, hv, hgb, hh, hnc', hcm, hcs, htake⟩
    · -- nothing to sort
      have hl0 : l = [] := List.eq_nil_of_length_eq_zero (by simpa using hn0)
      rw [hv]
      refine (hS.none none 0 w).mono fun e' w' ⟨he, hw⟩ => ?_
      subst he; subst hw
      simp only [hd]
      refine ⟨E, SimE.put ?_ (by simpa [St.upd] using hn) (Rep.tup [] [] rfl (fun j d hd => by simp at hd))⟩
      refine hs.upd false (fun _ => ⟨rfl, .inl ⟨e, _, _, hl, rfl, by simp⟩⟩) hnd hM0 (fun i hi => ⟨rfl, rfl⟩) (.inr rfl) none ⟨rfl, rfl, rfl, Nat.le_refl _, fun _ _ _ => rfl⟩ (fun _ => Nat.le_refl _) (fun g hg' => by cases hg') (fun b hb => .inl ⟨_, hl, hb⟩) (fun rep sv => ?_)
      subst hl0
      simp only [List.reverse_nil, List.map_nil]
      refine ⟨[], ⟨⟨by simp, .inl ⟨hv, rfl⟩⟩, hownF⟩, fun x hx => (by cases hx), fun j d hd => (by simp [flat] at hd)⟩
    · rw [hxl] at hv hnc' htake
      rw [hck] at hcs
      rw [hck] at htake
      rcases Nat.eq_zero_or_pos l.length with hl0 | hpos
      · -- nothing to sort, with room behind
        have hl0 : l = [] := List.eq_nil_of_length_eq_zero hl0
        rw [hv, hl0]
        refine (hS.none _ cap w).mono fun e' w' ⟨he, hw⟩ => ?_
        subst he; subst hw
        simp only [hd]
        refine ⟨E, SimE.put ?_ (by simpa [St.upd] using hn) (Rep.tup [] [] rfl (fun j d hd => by simp at hd))⟩
        refine hs.upd false (fun _ => ⟨rfl, .inl ⟨e, _, _, hl, rfl, by simp [hl0]⟩⟩) hnd hM0 (fun i hi => ⟨rfl, rfl⟩) (.inr rfl) none ⟨rfl, rfl, rfl, Nat.le_refl _, fun _ _ _ => rfl⟩ (fun _ => Nat.le_refl _) (fun g hg' => by cases hg') (fun b hb => .inl ⟨_, hl, hb⟩) (fun rep sv => ?_)
        simp only [List.reverse_nil, List.map_nil]
        refine ⟨[], ⟨⟨by simp, .inr ⟨gb, cap, cur, by rw [hv, hl0]; rfl, hgb, hh, Nat.zero_le _, hcm, by rw [hck]; exact hcs, by simp⟩⟩, hownF⟩, fun x hx => (by cases hx), fun j d hd => (by simp [flat] at hd)⟩
      · have hblk : gb < w.heap.size := (Array.getElem?_eq_some_iff.1 hh).1
        have : Inhabited {i // i < l.length} := ⟨⟨0, hpos⟩⟩
        let d : List {i // i < l.length} := (List.range l.length).attach.map fun z => ⟨z.1, List.mem_range.1 z.2⟩
        have hdl : d.map (·.1) = List.range l.length := by simp [d, List.map_map, Function.comp_def]
        have hdlen : d.length = l.length := by simp [d]
        let enc' : {i // i < l.length} → List Value := fun z => (vals.drop (z.1 * k)).take k
        have hend : ∀ x : {i // i < l.length}, x.1 * k + k ≤ l.length * k := fun x => by
          have := Nat.mul_le_mul_right k (show x.1 + 1 ≤ l.length from x.2); rwa [Nat.add_mul, Nat.one_mul] at this
        have hencl : ∀ x, (enc' x).length = k := fun x => by have := hend x; simp only [enc', List.length_take, List.length_drop]; omega
        have hencg : ∀ x j, j < k → (enc' x)[j]? = vals[x.1 * k + j]? := fun x j hj => take_drop_get hj
        have hencd : ∀ x j, j < k → (enc' x).getD j undef = vals.getD (x.1 * k + j) undef := fun x j hj => by rw [List.getD_eq_getElem?_getD, List.getD_eq_getElem?_getD, hencg x j hj]
        have hrepx : ∀ (x : {i // i < l.length}) j d', (cells (l[x.1]'x.2))[j]? = some d' → j < k ∧ AV.leaf d' = true ∧ Rep w (clsM M0 (owned E s.o) .pl) ((enc' x).getD j undef) d' := fun x j d' hd' => by
          have hj : j < k := by rw [← hcells _ (List.getElem_mem x.2)]; exact (List.getElem?_eq_some_iff.1 hd').1
          have := hrp (x.1 * k + j) d' (by rw [hfl x.1 j x.2 hj]; exact hd')
          exact ⟨hj, this.1, by rw [hencd x j hj]; exact this.2⟩
        have hone : ∀ x, ∀ v ∈ enc' x, v.oneCell' = true := fun x v hv' => by
          obtain ⟨j, hj, rfl⟩ := List.getElem_of_mem hv'
          rw [hencl] at hj
          obtain ⟨q1, q2, q3⟩ := hrepx x j ((cells (l[x.1]'x.2))[j]'(by rw [hcells _ (List.getElem_mem x.2)]; exact hj)) (List.getElem?_eq_getElem _)
          rw [List.getD_eq_getElem?_getD, List.getElem?_eq_getElem (by rw [hencl]; exact hj)] at q3
          exact q3.one q2
        have hcurj : ∀ j (hj : j < l.length * k), cur[j]? = vals[j]? := fun j hj => by
          have : (cur.toList.take (l.length * k))[j]? = vals[j]? := by rw [htake]
          rwa [List.getElem?_take, if_pos hj, Array.getElem?_toList] at this
        have hdj : ∀ j (hj : j < l.length), (d.toArray[j]!).1 = j := fun j hj => by
          rw [getElem!_pos d.toArray j (by simpa [hdlen] using hj)]
          simp [d]
        have hfk : ∀ (dk : Array {i // i < l.length}), dk.size = l.length → ∀ u, u < l.length * k → some (flatK enc' k dk)[u]! = vals[(dk[u / k]!).1 * k + u % k]? := fun dk hdk u hu => by
          rw [get_flatK enc' k dk u (by rw [hdk]; exact hu)]
          have hm : u % k < k := Nat.mod_lt _ hk0
          have := hencg (dk[u / k]!) (u % k) hm
          rw [getElem!_pos _ _ (by rw [hencl]; exact hm), ← this, List.getElem?_eq_getElem]
        have hH : HoldsK enc' k w gb 0 d.toArray := by
          intro j hj
          have hj' : j < l.length * k := by simpa [hdlen] using hj
          have hdv : j / k < l.length := Nat.div_lt_of_lt_mul (by rw [Nat.mul_comm]; exact hj')
          refine ⟨?_, ?_⟩
          · simp only [World.cell?, hh, Nat.zero_add, _root_.id]
            rw [hfk d.toArray (by simp [hdlen]) j hj', hdj _ hdv]
            show cur[j]? = _
            rw [hcurj j hj']
            congr 1
            rw [Nat.mul_comm, Nat.div_add_mod]
          · simp only [World.frozen?, hh]
            simp
        have hsw : ∀ n dk os, sortWorldK enc' k w gb 0 n dk os = sortWorld (α := Value) _root_.id w gb 0 n (flatK enc' k dk) os := fun _ _ _ => rfl
        have hcall := hS.some enc' hencl hone gb 0 cap d.toArray w hH (by simp [hdlen]; omega)
        have hsd : d.toArray.size = l.length := by simp [hdlen]
        rw [hsd] at hcall
        rw [hv]
        refine hcall.mono fun e' w' ⟨he, n, hw⟩ => ?_
        subst he
        simp only [hd]
        obtain ⟨dk, hdk⟩ : ∃ dk, dk = d.toArray.reverse := ⟨_, rfl⟩
        rw [← hdk] at hw
        have hw : w' = sortWorld (α := Value) _root_.id w gb 0 n (flatK enc' k dk) #[] := by rw [hw]; unfold sortWorld; rw [grow_empty]; rfl
        have hdks : dk.size = l.length := by rw [hdk, Array.size_reverse, hsd]
        have hml : (dk.toList.map fun z => l[z.1]'z.2) = l.reverse := by
          have e3 : (d.map fun z => l[z.1]'z.2) = l := by
            apply List.ext_getElem?
            intro j
            rcases Nat.lt_or_ge j l.length with hj | hj
            · simp [d, hj]
            · rw [List.getElem?_eq_none (by simp [hdlen]; omega), List.getElem?_eq_none hj]
          rw [hdk, Array.toList_reverse, List.map_reverse, List.toList_toArray, e3]
        rw [← hml]
        have hgr : w.grownBy w' (some gb) := by
          rw [hw]
          exact ⟨rfl, rfl, rfl, by rw [sortWorld_size]; omega, fun k hk hne => sortWorld_other _ _ _ _ _ _ (fun he => hne (by rw [he])) hk⟩
        have hdrawn : w.drawn ≤ w'.drawn := by rw [hw]; simp [sortWorld, grow, putRow, mapBlock, Sort.ahead]
        have hhw : w'.heap[gb]? = some (.cells (putCells _root_.id 0 (flatK enc' k dk) cur) e (0, 0)) := by
          have := sortWorld_same (α := Value) (enc := _root_.id) w gb n (flatK enc' k dk) #[] (off := 0) hh
          rw [hw]; exact this
        refine ⟨E, SimE.put ?_ (by simpa [St.upd] using hn) (Rep.tup [] [] rfl (fun j d hd => by simp at hd))⟩
        refine hs.upd false (fun _ => ⟨rfl, .inl ⟨e, _, _, hl, rfl, by simp [hdks]⟩⟩) hnd hM0 (fun i hi => ⟨rfl, rfl⟩) (.inr rfl) (some gb) hgr (fun _ => hdrawn) (fun g' hg' => ⟨_, hl, by simp only [Option.some.injEq] at hg'; subst hg'; simp only [ownB, hv, Value.ownBlock]⟩) (fun b hb => .inl ⟨_, hl, hb⟩) (fun rep sv => ?_)
        have hnlen : (flatK enc' k dk).size = l.length * k := by rw [size_flatK, hdks]
        have hcl2 : ∀ z ∈ ((dk.toList.map fun z => l[z.1]'z.2).map fun z => AV.agg (cells z)), (AV.cells z).length = k := fun z hz => by
          rw [List.mem_map] at hz
          obtain ⟨q, hq, rfl⟩ := hz
          rw [List.mem_map] at hq
          obtain ⟨u, _, rfl⟩ := hq
          exact hcells _ (List.getElem_mem u.2)
        refine ⟨(flatK enc' k dk).toList, ⟨⟨by rw [hck]; simp [hdks], .inr ⟨gb, cap, _, by rw [hv]; simp [hdks], hgb, hhw, by simpa [hdks] using hnc', hcm, by rw [hck]; simpa [putCells] using hcs, ?_⟩⟩, hownF⟩, fun z hz => by rw [hck]; exact hcl2 z hz, fun j d' hd' => ?_⟩
        · rw [hck]
          apply List.ext_getElem?
          intro j
          simp only [List.length_map, Array.length_toList, hdks]
          rw [List.getElem?_take]
          by_cases hj : j < l.length * k
          · have hcj : cur[j]? = some (vals[j]'(by rw [hvlen]; exact hj)) := by rw [hcurj j hj, List.getElem?_eq_getElem]
            rw [if_pos hj, Array.getElem?_toList]
            simp only [putCells, Array.getElem?_mapIdx, hcj, Option.map_some, Nat.zero_le, true_and, Nat.zero_add, hnlen, hj, if_true, Nat.sub_zero, _root_.id]
            rw [Array.getElem?_toList, Array.getElem?_eq_getElem (by omega), getElem!_pos _ j (by omega)]
          · rw [if_neg hj, List.getElem?_eq_none (by simp [hnlen]; omega)]
        · have hj : j < l.length * k := by
            have := (List.getElem?_eq_some_iff.1 hd').1
            rw [flat_length _ hcl2] at this
            simpa [hdks] using this
          have hdv : j / k < l.length := Nat.div_lt_of_lt_mul (by rw [Nat.mul_comm]; exact hj)
          have hm : j % k < k := Nat.mod_lt _ hk0
          have hjk : j / k * k + j % k = j := by rw [Nat.mul_comm, Nat.div_add_mod]
          have hg1 : ((dk.toList.map fun z => l[z.1]'z.2).map fun z => AV.agg (cells z))[j / k]? = some (.agg (cells (l[(dk[j / k]!).1]'(dk[j / k]!).2))) := by
            rw [List.getElem?_map, List.getElem?_map, Array.getElem?_toList, Array.getElem?_eq_getElem (by omega), getElem!_pos dk _ (by omega)]; rfl
          have hd2 := flat_get _ (j / k) _ hcl2 hg1 (j % k) hm
          rw [hjk, hd'] at hd2
          obtain ⟨_, q2, q3⟩ := hrepx (dk[j / k]!) (j % k) d' hd2.symm
          refine ⟨q2, ?_⟩
          have e1 : (flatK enc' k dk).toList.getD j undef = (enc' (dk[j / k]!)).getD (j % k) undef := by
            rw [hencd _ _ hm, List.getD_eq_getElem?_getD, List.getD_eq_getElem?_getD, ← hfk dk hdks j hj, Array.getElem?_toList, Array.getElem?_eq_getElem (by omega), getElem!_pos _ j (by omega)]
          rw [e1]
          exact rep _ _ _ q3 (by decide)
end
end Go.Am

namespace Go.Proofs
open Go.Shelf
def Try.revI_ren : Go.Shelf.Ren := ⟨fun | 35 => 48 | n => n, fun | 22 => 22 | 23 => 3 | 3 => 3 | 4 => 4 | 0 => 0 | n => n, fun | n => n⟩
theorem Try.revI : Go.Proofs.SlLaysN.n35 Try.prog Try.revI_ren := {
  mixed := by kernel_rfl
  f35 := ⟨Try.f48.name, by decide, Try.func48.trans (congrArg some (by kernel_rfl))⟩
  t0 := Try.underlying0
  a0 := Try.isAgg0
  z0 := Try.sizeOf0
  v0 := Try.zeroValue0
  t3 := Try.underlying3
  a3 := Try.isAgg3
  z3 := Try.sizeOf3
  v3 := Try.zeroValue3
  t4 := Try.underlying4
  a4 := Try.isAgg4
  z4 := Try.sizeOf4
  v4 := Try.zeroValue4
  t22 := Try.underlying22
  a22 := Try.isAgg22
  z22 := Try.sizeOf22
  v22 := Try.zeroValue22
  t23 := Try.underlying3
  a23 := Try.isAgg3
  z23 := Try.sizeOf3
  v23 := Try.zeroValue3 }
end Go.Proofs

namespace Go.Wd
set_option linter.unusedVariables false
open Go.Am Go.Wb
def errD (e : Int) : AV := int e
def lvR : Rx := .mk 3 [] [.mk 5 [] [.mk 2 [0, 1] []], .mk 2 [1] []]
def lvU : List Rx := reach nxR 2 3 (simR lvR)
def lvD : Dfa := ⟨2, [[0, 1], [0, 1]], [false, true]⟩
def lvN : Dfa := ⟨2, [[0, 1], [0, 1]], [true, false]⟩
set_option maxRecDepth 100000 in
theorem lv_closed : ∀ x ∈ lvU, ∀ s, s < 2 → nxR x s ∈ lvU := by
  have h : (lvU.all fun x => (List.range 2).all fun s => decide (nxR x s ∈ lvU)) = true := by decide +kernel
  intro x hx s hs
  have h1 := List.all_eq_true.1 h x hx
  exact of_decide_eq_true (List.all_eq_true.1 h1 s (List.mem_range.2 hs))
theorem lv_start : simR lvR ∈ lvU := by decide +kernel
theorem lv_len : lvU.length ≤ 4 := by decide +kernel
theorem lv_inj : ∀ a ∈ lvU, ∀ b ∈ lvU, kvR a = kvR b → a = b := by
  have h : (lvU.all fun x => lvU.all fun y => decide (tx x = tx y → x = y) && (tx x).all fun z => decide (0 ≤ z ∧ z < 256)) = true := by decide +kernel
  intro a ha b hb e
  have h1 := List.all_eq_true.1 (List.all_eq_true.1 h a ha) b hb
  have h2 := List.all_eq_true.1 (List.all_eq_true.1 h b hb) a ha
  rw [Bool.and_eq_true] at h1 h2
  have h3 : tx a = tx b := strI_inj (fun x hx => of_decide_eq_true (List.all_eq_true.1 h1.2 x hx)) (fun x hx => of_decide_eq_true (List.all_eq_true.1 h2.2 x hx)) e
  exact of_decide_eq_true h1.1 h3
theorem lv_size : ∀ x ∈ lvU, x.size ≤ 1000 ∧ dSz (simR x) ≤ 1000 ∧ ∀ s, s < 2 → (dR ((s : Nat) : Int) (simR x)).size ≤ 1000 := by
  have h : (lvU.all fun x => decide (x.size ≤ 1000 ∧ dSz (simR x) ≤ 1000) && (List.range 2).all fun s => decide ((dR ((s : Nat) : Int) (simR x)).size ≤ 1000)) = true := by decide +kernel
  intro x hx
  have h1 := List.all_eq_true.1 h x hx
  rw [Bool.and_eq_true] at h1
  have h2 := of_decide_eq_true h1.1
  exact ⟨h2.1, h2.2, fun s hs => of_decide_eq_true (List.all_eq_true.1 h1.2 s (List.mem_range.2 hs))⟩
theorem lv_of : minZ (mkD nxR 2 fnR (reach nxR 2 3 (simR lvR))) = lvD := by decide +kernel
theorem lv_valid : validR lvR = true := by decide +kernel
theorem lv_least : leastZ lvD = some [1] := by decide +kernel
theorem lv_not : notZ lvD = lvN := by decide +kernel
theorem lv_not2 : notZ lvN = lvD := by decide +kernel
theorem lv_count : countZ lvD 3 = 4 := by decide +kernel
theorem lv_acc : accI lvD [1, 0, 1] = true := by decide +kernel
end Go.Wd

namespace Go.Wd
open Go.RowKit Go.ChangeShapes Go.WideShapes Go.Deep Go.Am
open Go.Proofs.Ytjimlkpfmbachaa.Rows (uptoBulk uptoBulkAll)
set_option linter.unusedVariables false
section
variable {H : Type} {enc : TypeId × Value → H} {P : Program} {w : World} {base : Nat} {spare : Nat → Bool} {held : Bool}
theorem bulk_posI (d : DataW H) : 1 ≤ uptoBulk d := by
  cases d with
  | lit l => cases l <;> simp [uptoBulk]
  | _ => simp [uptoBulk]
theorem bulkAll_len (D : Nat → DataW H) : ∀ n : Nat, n ≤ uptoBulkAll ((List.range n).map D) := by
  have app : ∀ (l : List (DataW H)) (x : DataW H), uptoBulkAll (l ++ [x]) = uptoBulkAll l + uptoBulk x := by
    intro l x
    induction l with
    | nil => simp [uptoBulkAll]
    | cons y l ih => rw [List.cons_append, uptoBulkAll, uptoBulkAll, ih]; omega
  intro n
  induction n with
  | zero => exact Nat.zero_le _
  | succ n ih =>
    rw [List.range_succ, List.map_append]
    show n + 1 ≤ uptoBulkAll (((List.range n).map D) ++ [D n])
    rw [app]
    have := bulk_posI (D n)
    omega
theorem open_intsB {t e : TypeId} {r : Reach} {b0 : Nat} {v : Value} {d : DataW H} {ps : List MemPlace} (ht : P.underlying t = some (.slice e)) (he : P.underlying e = some (.int .i64)) (hc : szOf P e = some 1) (hval : Value.okWide P w r b0 t v) (hd : DataW.Trod enc P w base spare held t v d ps) :
    ∃ l : List Int, (∀ a ∈ l, -9223372036854775808 ≤ a ∧ a ≤ 9223372036854775807) ∧ l.length ≤ uptoBulk d ∧ Rep w (fun _ => False) v (.sl (l.map int)) := by
  obtain ⟨n, hn⟩ := hd
  rw [one_slice ht hval] at hn
  obtain ⟨l, h1, _, h2⟩ := rep_slice (ad := int) (ok := fun z : Int => -9223372036854775808 ≤ z ∧ z ≤ 9223372036854775807) ht (cellsOf_of hc) (fun a => ⟨rfl, rfl⟩) (trod_i64 he) hn
  refine ⟨l, h1, ?_, h2⟩
  have h3 : Rep w (fun _ => False) v (.sl (l.map int)) := h2
  rcases open_slice1 ht (cellsOf_of hc) hn with ⟨g1, hx⟩ | ⟨a, len, cap, m, n', V, D, Pl, g1, hb, hl, hm, hmm, hx, hall⟩
  · simp only [List.cons.injEq, and_true] at g1
    subst g1
    have hl : l.length = 0 := by
      generalize hz : AV.sl (l.map int) = z at h3
      cases h3 with
      | sl a n cap xs k cv hn =>
        injection hz with hz
        rw [← hz, List.length_map] at hn; exact hn
      | _ => cases hz
    rw [hl]; exact Nat.zero_le _
  · simp only [List.cons.injEq, and_true] at g1
    subst g1
    have hl : l.length = len := by
      generalize hz : AV.sl (l.map int) = z at h3
      cases h3 with
      | sl a n cap xs k cv hn =>
        injection hz with hz
        rw [← hz, List.length_map] at hn; exact hn
      | _ => cases hz
    have h4 := bulkAll_len D len
    have hx2 := congrArg Prod.fst hx
    simp only at hx2
    rw [hx2]
    simp only [uptoBulk]; omega
end
end Go.Wd

namespace Go.Wd
set_option linter.unusedVariables false
open Go.Am
theorem nodup_kv {K : Type} {kv : K → Value} (hk : ∀ a b, kv a = kv b → a = b) {l : List K} (h : l.Nodup) : (l.map kv).Nodup := List.Pairwise.map kv (fun a b hab e => hab (hk a b e)) h
def smallP (x : Nat × Nat) : Prop := x.1 ≤ 4611686018427387904 ∧ x.2 ≤ 4611686018427387904
def differZ (a b : Dfa) : Option (List Nat) := if validD a = true ∧ validD b = true ∧ a.size = b.size then diffP a b else none
theorem differZ_t {a b : Dfa} (h1 : validD a = true) (h2 : validD b = true) (h3 : a.size = b.size) : differZ a b = diffP a b := if_pos ⟨h1, h2, h3⟩
theorem differZ_f {a b : Dfa} (h : ¬ (validD a = true ∧ validD b = true ∧ a.size = b.size)) : differZ a b = none := if_neg h
theorem differZ_a {a b : Dfa} (h : validD a = false) : differZ a b = none := if_neg fun q => by rw [h] at q; cases q.1
theorem differZ_b {a b : Dfa} (h : validD b = false) : differZ a b = none := if_neg fun q => by rw [h] at q; cases q.2.1
end Go.Wd

namespace Go.Am
open Go.RowKit Go.MapKept Go.ChangeMaps
set_option linter.unusedVariables false
theorem keyOf_pair {P : Program} {k e : TypeId} {n : Nat} (hk : P.underlying k = some (.array 2 e)) (he : P.underlying e = some (.int .i64)) (hc : szOf P k = some 2) (hce : szOf P e = some 1) (hkt : P.keyType k = true) (hsz : P.types.size = n + 1) {a b : Int}
    (ha : (Lit.int .i64 a).wf = true) (hb : (Lit.int .i64 b).wf = true) : ∃ l, keyOf P k (.agg #[.int .i64 a, .int .i64 b]) = some l := by
  have h1 := cellsOf_of hc
  have h2 := cellsOf_of hce
  have hf : Value.formed P k (.agg #[.int .i64 a, .int .i64 b]) = true := by simp [Value.formed, hk, h1]
  have hl : ∀ (d : Nat) (z : Int), (Lit.int .i64 z).wf = true → P.keyLits (d + 1) e [.int .i64 z] = some [.int .i64 z] := fun d z hz => by
    unfold Program.keyLits
    simp [he, hz]
  refine ⟨.string (keyBytes [.int .i64 a, .int .i64 b]), ?_⟩
  unfold keyOf
  rw [hk]
  simp only [hkt, hf, Bool.and_self, if_true, hsz]
  have : P.keyLits (n + 1 + 1) k (Value.agg #[.int .i64 a, .int .i64 b]).cells.toList = some [.int .i64 a, .int .i64 b] := by
    unfold Program.keyLits
    simp [hk, Value.cells, h1, h2, List.range_succ, hl n a ha, hl n b hb]
  rw [this]; rfl
section
variable {P : Program} {w0 : Fr} {M0 : Nat → Prop}
variable {o : Oper} {ρ : Operand → Option SV} {ob : List (Nat × Ob)} {x y z : Operand} {T T' e : TypeId} {k b : Nat} {c : Cls} {id off : Nat} {s : St} {t : Nat}
theorem pure_build2 {u v z0 z1 : Value} (ho : o.op = .build T #[(0, x), (1, y)]) (hT : P.underlying T = some (.array 2 e)) (hk : szOf P e = some 1) (hz : zeroOf P T = some [z0, z1]) (hx : scal ρ x = some u) (hy : scal ρ y = some v) (hu : u.oneCell' = true) (hv : v.oneCell' = true) : Pure P w0 M0 o ρ ob (.v .pl (.agg [.sc u, .sc v])) :=
  pure_value fun E w ev hw h => by
    have hxv := scal_ok h hx
    have hyv := scal_ok h hy
    have hrun : (Instr.build T #[(0, u), (1, v)]).run P w = .ok (.agg #[u, v]) w := by
      apply run_build
      unfold Program.built
      unfold zeroOf at hz
      unfold szOf at hk
      cases hi : P.info? T with
      | none => rw [hi] at hz; cases hz
      | some it =>
        rw [hi] at hz
        simp only [Option.bind_some, Option.map_eq_some_iff] at hz
        obtain ⟨zz, hz1, hz2⟩ := hz
        cases hie : P.info? e with
        | none => rw [hie] at hk; cases hk
        | some ie =>
          rw [hie] at hk
          simp only [Option.map_some, Option.some.injEq] at hk
          have e0 : zz.cells = #[z0, z1] := by rw [← Array.toArray_toList (xs := zz.cells), hz2]
          have cu : u.cells = #[u] := by cases u <;> simp_all [Value.cells, Value.oneCell']
          have cv : v.cells = #[v] := by cases v <;> simp_all [Value.cells, Value.oneCell']
          simp [hT, hz1, hk, e0, hie, Instr.fill, cu, cv]
    refine ⟨.agg #[u, v], w, by simp [execOp, ho, hxv, hyv, hrun, Result.andThen], .refl _ _, ?_⟩
    refine .agg [u, v] _ rfl (fun j d hd => ?_) (fun j d hd => ?_)
    · match j, hd with
      | 0, hd => simp at hd; subst hd; rfl
      | 1, hd => simp at hd; subst hd; rfl
      | j + 2, hd => simp at hd
    · match j, hd with
      | 0, hd => simp at hd; subst hd; exact .sc _ hu
      | 1, hd => simp at hd; subst hd; exact .sc _ hv
      | j + 2, hd => simp at hd
theorem pure_build0 {z0 z1 : Value} (ho : o.op = .build T #[]) (hT : P.underlying T = some (.array 2 e)) (hk : szOf P e = some 1) (hz : zeroOf P T = some [z0, z1]) (hu : z0.oneCell' = true) (hv : z1.oneCell' = true) : Pure P w0 M0 o ρ ob (.v .pl (.agg [.sc z0, .sc z1])) :=
  pure_value fun E w ev hw h => by
    have hrun : (Instr.build T #[]).run P w = .ok (.agg #[z0, z1]) w := by
      apply run_build
      unfold Program.built
      unfold zeroOf at hz
      unfold szOf at hk
      cases hi : P.info? T with
      | none => rw [hi] at hz; cases hz
      | some it =>
        rw [hi] at hz
        simp only [Option.bind_some, Option.map_eq_some_iff] at hz
        obtain ⟨zz, hz1, hz2⟩ := hz
        cases hie : P.info? e with
        | none => rw [hie] at hk; cases hk
        | some ie =>
          have e0 : zz.cells = #[z0, z1] := by rw [← Array.toArray_toList (xs := zz.cells), hz2]
          simp [hT, hz1, e0, hie, Instr.fill]
    refine ⟨.agg #[z0, z1], w, by simp [execOp, ho, hrun, Result.andThen], .refl _ _, ?_⟩
    refine .agg [z0, z1] _ rfl (fun j d hd => ?_) (fun j d hd => ?_)
    · match j, hd with
      | 0, hd => simp at hd; subst hd; rfl
      | 1, hd => simp at hd; subst hd; rfl
      | j + 2, hd => simp at hd
    · match j, hd with
      | 0, hd => simp at hd; subst hd; exact .sc _ hu
      | 1, hd => simp at hd; subst hd; exact .sc _ hv
      | j + 2, hd => simp at hd
theorem rep_aggl {w : World} {M M' : Nat → Prop} {v : Value} {cs : List AV} {l : List Value} (h : Rep w M v (.agg cs)) (hl : scsOf cs = some l) : Rep w M' v (.agg cs) := by
  have hc := scsOf_get hl
  cases h with
  | agg vs _ hn hlf hr =>
    refine .agg vs cs hn hlf fun j d hd => ?_
    have h1 := hr j d hd
    rw [hc, List.getElem?_map, Option.map_eq_some_iff] at hd
    obtain ⟨u, _, rfl⟩ := hd
    generalize vs.getD j undef = q at h1 ⊢
    cases h1 with | sc _ h2 => exact .sc _ h2
theorem pure_aggl {cs : List AV} {l : List Value} (h : Pure P w0 M0 o ρ ob (.v c (.agg cs))) (hl : scsOf cs = some l) : Pure P w0 M0 o ρ ob (.v .pl (.agg cs)) := by
  intro E w ev hw hx
  have h := h E w ev hw hx
  unfold Yield at h ⊢
  revert h
  generalize (execOp ev o).run P w = r
  intro h
  match r, h with
  | .ok (.value z) w', h => exact ⟨h.1, rep_aggl h.2 hl⟩
  | .ok (.enter f args) w', h => exact ⟨h.1, h.2.mono fun e w'' ⟨z, he, hb, hz⟩ => ⟨z, he, hb, rep_aggl hz hl⟩⟩
theorem pure_index_pc {q : IntKind} {i : Int} {n : Nat} {cs : List AV} (ho : o.op = .indexAddr T x y) (hT : P.underlying T = some (.array n e)) (hk : szOf P e = some 1) (hx : ρ x = some (.v c (.pc cs off))) (hy : scal ρ y = some (.int q i)) (h : 0 ≤ i ∧ i < n) : Pure P w0 M0 o ρ ob (.v c (.pc cs (off + i.toNat))) :=
  pure_value fun E w ev hw hh => by
    have hr := hh x _ hx
    simp only [SVok] at hr
    have hi := scal_ok hh hy
    generalize hq : ev x = qx at hr
    cases hr with
    | pc b of _ _ cv hM hb hc hl hr =>
      have hel : P.elem T = e := by simp [Program.elem, hT]
      have hal : P.arrayLen T = n := by simp [Program.arrayLen, hT]
      have hin : 0 ≤ i ∧ i < (n : Int) := h
      refine ⟨.pointer (some ⟨b, of + (off + i.toNat), none⟩), w, ?_, .refl _ _, .pc b of (off + i.toNat) cs cv hM hb hc hl hr⟩
      simp [execOp, ho, hq, hi, run_indexAt_array, hel, hal, hT, hin, run_size hk, Addr.add_lit, Nat.add_assoc]
theorem pure_load_pel_part {i m : Nat} {el : AV} {xs : List AV} (ho : o.op = .load T x) (hT : isAggOf P T = some true) (hm : szOf P T = some m) (hx : ρ x = some (.pel id i off)) (hl : ob.lookup id = some (.arr e xs)) (hck : szOf P e = some k) (hle : off + m ≤ k) (he : xs[i]? = some el) : Pure P w0 M0 o ρ ob (.v .pl (.agg ((el.cells.drop off).take m))) :=
  pure_value fun E w ev hw h => by
    obtain ⟨hi, g, hg, hr⟩ := h x _ hx e xs hl
    obtain ⟨vals, ⟨hown, hownF⟩, h2, h3⟩ := hw.objs id _ hl
    have hce := cellsOf_of hck
    rw [hce] at hr hown h2
    have hel := h2 el (List.mem_of_getElem? he)
    have hvl : vals.length = xs.length * k := hown.1
    have hmul : i * k + k ≤ xs.length * k := by rw [← Nat.succ_mul]; exact Nat.mul_le_mul_right _ (by omega)
    have hcell := run_loadCells (P := P) w ⟨g, i * k + off, none⟩ m (fun j => vals.getD (i * k + (off + j)) undef) (fun j hj => by
      have hj' : i * k + (off + j) < vals.length := by omega
      have := hown.cells hg (i * k + (off + j)) _ (List.getElem?_eq_getElem hj')
      rw [Addr.add_lit, Nat.zero_add] at this
      rw [Addr.add_lit, Nat.add_assoc, this, List.getD_eq_getElem?_getD, List.getElem?_eq_getElem hj']; rfl)
    have hget : ∀ (j : Nat) d, ((el.cells.drop off).take m)[j]? = some d → j < m ∧ el.cells[off + j]? = some d := fun j d hd => by
      rw [List.getElem?_take] at hd
      split at hd
      · exact ⟨‹_›, by rw [← hd, List.getElem?_drop]⟩
      · cases hd
    refine ⟨.agg ((List.range m).map fun j => vals.getD (i * k + (off + j)) undef).toArray, w, ?_, .refl _ _, .agg _ _ (by simp [hel]; omega) (fun j d hd => ?_) (fun j d hd => ?_)⟩
    · simp only [execOp, ho, hr, Instr.loadAt, Instr.sureAddr, loadVar, Sem.run_bind, run_isAggOf hT, run_size hm, Result.andThen_ok, Sem.run_pure, if_true, hcell]
    · obtain ⟨hj, hd⟩ := hget j d hd
      exact (h3 (i * k + (off + j)) d (by rw [flat_get xs i el h2 he (off + j) (by omega)]; exact hd)).1
    · obtain ⟨hj, hd⟩ := hget j d hd
      have := (h3 (i * k + (off + j)) d (by rw [flat_get xs i el h2 he (off + j) (by omega)]; exact hd)).2
      rw [List.getD_eq_getElem?_getD, List.getElem?_map, List.getElem?_range hj]
      exact this
end
end Go.Am

namespace Go.Wd
set_option linter.unusedVariables false
section
variable {K : Type} [DecidableEq K] {next : K → Nat → K} {size : Nat} {final : K → Bool}
end
section
variable {d m : Dfa}
structure Few (m : Dfa) (U : List (List Bool)) : Prop where
  cl : ∀ x ∈ U, ∀ s, s < m.k → snext m x s ∈ U
  start : m.fin ∈ U
  le : U.length ≤ 2048
  le2 : U.length ≤ 2 ^ m.n
theorem Few.met {U : List (List Bool)} (hU : Few m U) : Met (snext m) m.k U (reach (snext m) m.k (2 ^ m.n) m.fin) (reach (snext m) m.k (2 ^ m.n) m.fin).length ∧ [m.fin] <+: reach (snext m) m.k (2 ^ m.n) m.fin := by
  rw [reach_more hU.cl hU.start hU.le2]
  exact reach_met hU.cl hU.start
end
end Go.Wd

namespace Go.Wd
set_option linter.unusedVariables false
open Go.Am Go.Wc
theorem toN_natL (w : List Nat) : toN (natL w) = w := by
  unfold toN natL
  rw [List.map_map]
  exact (List.map_congr_left fun x _ => rfl).trans (List.map_id w)
theorem okW_wrd {d : Dfa} (h : okD d) {w : List Nat} (hw : Wrd d.k w) : okW d (natL w) := fun s hs => by
  obtain ⟨n, hn, rfl⟩ := List.mem_map.1 hs
  have := hw n hn
  have := (kk h).1
  omega
theorem accI_nat {d : Dfa} (h : okD d) {w : List Nat} (hw : Wrd d.k w) : accI d (natL w) = d.acc 0 w := by
  rw [accI_t (ok_valid h) (okW_wrd h hw), toN_natL]
theorem canon_bits {A X : Dfa} (hA : okD A) (hX : okD X) (hs : A.size = X.size) : ((differZ A X).isSome == decide (minZ A = minZ X)) = false ∧ ∀ w, differZ A X = some w → (accI A (natL w) == accI X (natL w)) = false := by
  rw [differZ_t (ok_valid hA) (ok_valid hX) hs, minZ_t (ok_valid hA), minZ_t (ok_valid hX)]
  have hk : A.k = X.k := by unfold Dfa.k; rw [hs]
  have h1 := canon_law hA hX hs
  have h2 := diff_first hA hX hk
  cases hd : diffP A X with
  | none =>
    rw [hd] at h1
    refine ⟨?_, fun w h => by cases h⟩
    simp only [Option.isSome_none]
    rw [decide_eq_true h1]; rfl
  | some w =>
    rw [hd] at h1 h2
    refine ⟨?_, fun w' h => ?_⟩
    · simp only [Option.isSome_some]
      rw [decide_eq_false h1.1]; rfl
    · injection h with h
      subst h
      have hw : Wrd A.k w := h2.1.1
      rw [accI_nat hA hw, accI_nat hX (by rw [← hk]; exact hw)]
      exact beq_eq_false_iff_ne.2 h2.1.2
theorem minZ_minZ {A : Dfa} (hA : okD A) : minZ (minZ A) = minZ A := by
  rw [minZ_t (ok_valid hA), minZ_t (ok_valid (minP_ok hA).1), min_min hA]
end Go.Wd
namespace Go.Wd
section
variable {K : Type} [DecidableEq K] {next : K → Nat → K} {size : Nat} {good : K → Bool}
theorem growW_word {B : Nat} {p : Pth K} (hp : p.2.length ≤ B) {l : List (Pth K)} (hl : ∀ q ∈ l, q.2.length ≤ B + 1) : ∀ s, ∀ q ∈ growW next p l s, q.2.length ≤ B + 1
  | 0, q, hq => hl q hq
  | s + 1, q, hq => by
    rw [growW] at hq
    unfold addW at hq
    split at hq
    · exact growW_word hp hl s q hq
    · rcases List.mem_append.1 hq with hq | hq
      · exact growW_word hp hl s q hq
      · rw [List.mem_singleton.1 hq]
        show (p.2 ++ [s]).length ≤ B + 1
        rw [List.length_append]; simp only [List.length_cons, List.length_nil]; omega
theorem seek_word : ∀ (f i B : Nat) (l : List (Pth K)) (w : List Nat), (∀ q ∈ l, q.2.length ≤ B) → seekW next size good f i l = some w → w.length ≤ B + f
  | 0, i, B, l, w, _, h => by cases h
  | f + 1, i, B, l, w, hl, h => by
    rw [seekW] at h
    cases hx : l[i]? with
    | none => rw [hx] at h; cases h
    | some p =>
      rw [hx] at h
      simp only [] at h
      have hp := hl p (List.mem_of_getElem? hx)
      split at h
      · injection h with h
        rw [← h]; omega
      · have := seek_word f (i + 1) (B + 1) _ w (growW_word hp (fun q hq => by have := hl q hq; omega) size) h
        omega
end
open Go.Am in
theorem differ_len {A X : Dfa} (hA : okD A) (hn : A.n ≤ 7) (hX : okD X) (hm : X.n ≤ 7) (hs : A.size = X.size) : (natL ((differZ A X).getD [])).length ≤ 4611686018427387904 := by
  rw [differZ_t (ok_valid hA) (ok_valid hX) hs, List.length_map]
  cases hd : diffP A X with
  | none => exact Nat.zero_le _
  | some w =>
    have h1 := seek_word _ _ 0 _ w (fun q hq => by rw [List.mem_singleton.1 hq]; exact Nat.le_refl _) hd
    have h2 := Nat.mul_le_mul hn hm
    show w.length ≤ _
    omega
end Go.Wd

