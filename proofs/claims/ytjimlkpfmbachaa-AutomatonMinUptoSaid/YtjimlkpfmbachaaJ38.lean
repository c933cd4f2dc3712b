/-
  Contracts: pairs of states: what is reached, the search, differences.
-/
import Derived.Test.YtjimlkpfmbachaaJ37
import Derived.Test.YtjimlkpfmbachaaJ26
import Derived.JoinedCond
import Derived.Test.YtjimlkpfmbachaaJ35
import Derived.Test.YtjimlkpfmbachaaJ30
set_option linter.unusedVariables false
set_option linter.unusedSectionVars false
set_option linter.unusedSimpArgs false
namespace Go.Proofs.Ytjimlkpfmbachaa
open Go.Am Go.Wc Go.Wb Go.Wd
set_option linter.unusedVariables false
set_option linter.unusedSimpArgs false
theorem minZ_bd (d : Dfa) : (minZ d).next.length ≤ 2048 ∧ (minZ d).fin.length ≤ 2048 ∧ ∀ r ∈ (minZ d).next, r.length ≤ 64 := by
  unfold minZ
  split
  · next h =>
    have ho := (minP_ok (valid_ok h)).1
    have h1 := ho.1
    refine ⟨h1.2.1.2, by omega, fun r hr => ?_⟩
    have h2 := (ho.2 r hr).1
    omega
  · exact ⟨by decide, by decide, fun r hr => by cases hr⟩
theorem notZ_bd (d : Dfa) : (notZ d).next.length ≤ 2048 ∧ (notZ d).fin.length ≤ 2048 ∧ ∀ r ∈ (notZ d).next, r.length ≤ 64 := by
  cases h : validD d with
  | true => rw [notZ_t h]; exact minZ_bd _
  | false => rw [notZ_f h]; exact ⟨by decide, by decide, fun r hr => by cases hr⟩
theorem same_min (d : Dfa) : CallF Try.prog 7 [dfa (minZ d), dfa (minZ d)] (.p (bool true)) := by
  have hb := minZ_bd d
  have h := dsame_call (a := minZ d) (b := minZ d) (by omega) (by omega) (fun r hr => by have := hb.2.2 r hr; omega)
  rwa [decide_eq_true rfl] at h
theorem same_not (d : Dfa) : CallF Try.prog 7 [dfa (notZ d), dfa (notZ d)] (.p (bool true)) := by
  have hb := notZ_bd d
  have h := dsame_call (a := notZ d) (b := notZ d) (by omega) (by omega) (fun r hr => by have := hb.2.2 r hr; omega)
  rwa [decide_eq_true rfl] at h
theorem I64s.append {l m : List Int} (hl : I64s l) (hm : I64s m) : I64s (l ++ m) := fun a ha => by
  rcases List.mem_append.1 ha with h | h
  · exact hl a h
  · exact hm a h
theorem fn3 : Fn1 Try.prog 3 Try.f3.ntmps 4 (Try.f3.body.getD .skip) := ⟨Try.f3, Try.func3, rfl, rfl, rfl, by kernel_rfl⟩
set_option maxRecDepth 100000 in
set_option maxHeartbeats 4000000 in
theorem min_law {l m : List Int} (hl : I64s l) (hm : I64s m) (zl : l.length ≤ 1048576) (zm : m.length ≤ 1048576) : CallF Try.prog 3 [ints l, ints m] (.p (bool true)) := by
  refine callF_of_code fn3 (Nat.le_of_ble_eq_true rfl) fun w0 M0 hM0 => ?_
  refine xC tb hM0 8 [0,1,7] [] rfl ?_
  refine oP rfl (pure_call rfl rfl rfl (dfa_call hl) hM0) ?_
  refine xA tb hM0 1 [0,1,8,9] [] rfl ?_
  refine oP rfl (pure_call rfl rfl rfl (dfa_call hm) hM0) ?_
  refine oS rfl (step_lit0 rfl rfl rfl rfl rfl Try.underlying22 el3 hM0) rfl ?_
  refine xA tb hM0 1 [1,8,10,11,12] [11] rfl ?_
  refine oS rfl (step_append rfl rfl rfl rfl Try.underlying22 el3 rfl rfl hM0 (src_scm rfl (fun _ => ⟨_, rfl⟩)) (by simp only [List.length_map, List.length_nil]; omega) (by simp only [List.length_map, List.length_nil]; omega)) rfl ?_
  refine xA tb hM0 1 [8,10,13,14] [11] rfl ?_
  refine oS rfl (step_append rfl rfl rfl rfl Try.underlying22 el3 rfl rfl hM0 (src_scm rfl (fun _ => ⟨_, rfl⟩)) (by simp only [List.length_append, List.length_map, List.length_nil]; omega) (by simp only [List.length_append, List.length_map, List.length_nil]; omega)) rfl ?_
  refine xA tb hM0 0 [8,10,15] [11] rfl ?_
  refine oP rfl (pure_call rfl rfl rfl (by rw [show ([] ++ l.map int ++ m.map int) = (l ++ m).map int from by simp]; exact sized_call (l := l ++ m) (I64s.append hl hm) (by omega)) hM0) ?_
  refine oP rfl (pure_lit rfl Try.underlying29 el26 rfl rfl rfl rfl hM0) ?_
  refine xA tb hM0 10 [5,6] [] rfl ?_
  refine lp (fun zm zs => ∃ i : Nat, zm = 3 - i ∧ (i ≤ 3) ∧ zs = ⟨51, [(5, .v .pl (.sl ([dfaP l, dfaP m, sizedP (l ++ m) 2].map dfa))), (6, .v .pl (int i))], []⟩) ?_ ?_
  exact ⟨_, 0, rfl, Nat.zero_le _, rfl⟩
  rintro zm zs ⟨i, rfl, hL1_0, rfl⟩
  have h33 : ([dfaP l, dfaP m, sizedP (l ++ m) 2]).length = 3 := rfl
  refine xA tb hM0 5 [5,6,18,19] [] rfl ?_
  refine oP rfl (pure_lenm rfl Try.underlying29 rfl) ?_
  refine xA tb hM0 3 [5,6,21] [] rfl ?_
  refine spC 21 rfl ?_ ?_ <;> intro h1 <;> try simp only [dq] at h1
  refine xA tb hM0 6 [5,6] [] rfl ?_
  refine code_draw mixed (by kernel_rfl) _ rfl ?_
  refine dl_pure rfl rfl rfl (pure_move rfl rfl) ?_
  refine dl_pure rfl rfl rfl (pure_move rfl rfl) ?_
  refine dl_pure rfl rfl rfl (pure_ix (f := dfa) (l := [dfaP l, dfaP m, sizedP (l ++ m) 2]) rfl Try.underlying29 sz26 rfl rfl (by omega) (fun _ => rfl)) ?_
  refine dl_pure rfl rfl rfl (pure_load_agg rfl ag26 sz26 rfl (Nat.le_of_ble_eq_true rfl)) ?_
  refine dl_pure rfl rfl rfl (pure_call rfl rfl rfl (min_call (d := ([dfaP l, dfaP m, sizedP (l ++ m) 2].getD i default))) hM0) ?_
  refine dl_pure rfl rfl rfl (pure_move rfl rfl) ?_
  refine dl_pure rfl rfl rfl (pure_move rfl rfl) ?_
  refine dpk 51 [(5,_),(6,_),(28,_),(29,_),(30,_)] [] rfl rfl rfl ?_
  refine dl_pure rfl rfl rfl (pure_ix (f := dfa) (l := [dfaP l, dfaP m, sizedP (l ++ m) 2]) rfl Try.underlying29 sz26 rfl rfl (by omega) (fun _ => rfl)) ?_
  refine dl_pure rfl rfl rfl (pure_load_agg rfl ag26 sz26 rfl (Nat.le_of_ble_eq_true rfl)) ?_
  refine dl_pure rfl rfl rfl (pure_call rfl rfl rfl (rmin_call (d := ([dfaP l, dfaP m, sizedP (l ++ m) 2].getD i default))) hM0) ?_
  refine dl_pure rfl rfl rfl (pure_callb (b' := true) rfl rfl rfl (same_min ([dfaP l, dfaP m, sizedP (l ++ m) 2].getD i default)) hM0 (rfl)) ?_
  refine dl_pure rfl rfl rfl (pure_not rfl rfl) ?_
  refine dl_pure rfl rfl rfl (pure_move rfl rfl) ?_
  refine dl_pure_g rfl rfl rfl rfl rfl (pure_move rfl rfl) ?_
  refine dpk 51 [(5,_),(6,_),(36,_),(37,_)] [] rfl rfl rfl ?_
  refine dl_pure_g rfl rfl rfl rfl rfl (pure_move rfl rfl) ?_
  refine dl_pure_g rfl rfl rfl rfl rfl (pure_ix (f := dfa) (l := [dfaP l, dfaP m, sizedP (l ++ m) 2]) rfl Try.underlying29 sz26 rfl rfl (by omega) (fun _ => rfl)) ?_
  refine dl_pure_g rfl rfl rfl rfl rfl (pure_load_agg rfl ag26 sz26 rfl (Nat.le_of_ble_eq_true rfl)) ?_
  refine dl_pure_g rfl rfl rfl rfl rfl (pure_call rfl rfl rfl (not_call (d := ([dfaP l, dfaP m, sizedP (l ++ m) 2].getD i default))) hM0) ?_
  refine dl_pure_g rfl rfl rfl rfl rfl (pure_move rfl rfl) ?_
  refine dl_pure_g rfl rfl rfl rfl rfl (pure_move rfl rfl) ?_
  refine dl_pure_g rfl rfl rfl rfl rfl (pure_ix (f := dfa) (l := [dfaP l, dfaP m, sizedP (l ++ m) 2]) rfl Try.underlying29 sz26 rfl rfl (by omega) (fun _ => rfl)) ?_
  refine dpk 51 [(5,_),(6,_),(36,_),(41,_),(44,_)] [] rfl rfl rfl ?_
  refine dl_pure_g rfl rfl rfl rfl rfl (pure_load_agg rfl ag26 sz26 rfl (Nat.le_of_ble_eq_true rfl)) ?_
  refine dl_pure_g rfl rfl rfl rfl rfl (pure_call rfl rfl rfl (rnot_call (d := ([dfaP l, dfaP m, sizedP (l ++ m) 2].getD i default))) hM0) ?_
  refine dl_pure_g rfl rfl rfl rfl rfl (pure_callb (b' := true) rfl rfl rfl (same_not ([dfaP l, dfaP m, sizedP (l ++ m) 2].getD i default)) hM0 (rfl)) ?_
  refine dl_pure_g rfl rfl rfl rfl rfl (pure_not rfl rfl) ?_
  refine dl_pure rfl rfl rfl (pure_pick_f rfl rfl rfl rfl) ?_
  refine dl_nil ?_
  refine xD tb hM0 7 [5,22] [] rfl ?_
  refine oP rfl (pure_addi rfl rfl rfl (by omega)) ?_
  refine xA tb hM0 2 [5,6] [] rfl ?_
  refine nx ?_
  exact ⟨_, ⟨i + 1, rfl, by omega, rfl⟩, by omega⟩
  refine xA tb hM0 8 [] [] rfl ?_
  refine oP rfl (pure_call rfl rfl rfl (lives_call) hM0) ?_
  refine xA tb hM0 4 [] [] rfl ?_
  refine end_ret rfl ?_
  first | rfl | simp_all
/-! The statement AutomatonMinUptoSaid. -/
namespace automatonMin
open Go.ChangeShapes Go.WideShapes Go.ChangeAt Go.RowKit Go.Am
theorem own : ownKnob Try.prog.godebug = none := by kernel_rfl
set_option maxRecDepth 100000 in
theorem lifted (os : Os) (started : os.Started) (H : Type) (enc : TypeId × Value → H) (F : Stop.Interp) :
    ReturnsInHanded {} Try.checked os 3 .any ((Rows.OpenSpec.upto Rows.automatonMinSpec).pre6 enc Try.prog Try.f3 Rows.automatonMinUptoRow.domain false) (((Rows.OpenSpec.upto Rows.automatonMinSpec).at F).post enc Try.prog Try.f3 false true false false) := by
  refine returnsInHanded_of_cond (C := Try.checked) (k := Rows.uptoSmall) rfl own started (by kernel_rfl) Try.func3
    (OpenSpec.witness (enc := enc) (C := Try.checked) (k := Rows.uptoSmall) rfl false ⟨#[], #[.slice none 0 0, .slice none 0 0], []⟩ 8 (by kernel_rfl) (by kernel_rfl) (by kernel_rfl) (x := ([.nil, .nil], [], [])) (by kernel_rfl) (by kernel_rfl) (by kernel_rfl)) ?_
  intro W base args ds gs before hval0 hW hcnd hsm _
  have hval : ∀ (j : Nat) t v, Try.f3.params[j]? = some t → args[j]? = some v → Value.okWide Try.prog W .any base t v := hval0
  have hW' := hW
  obtain ⟨p, q, hA0, hV, rfl, hfz, hnd⟩ := hW
  have hbulk : Rows.uptoBulkAll (ds ++ gs) ≤ 1048576 := of_decide_eq_true hsm
  have hA : DataW.TrodAll enc Try.prog W 0 (fun _ => true) true Try.f3.params.toList args.toList ds p := hA0
  rw [Try.params3] at hA hval
  obtain ⟨v0, vs0, d0, ds0, p0, q0, hargs, rfl, rfl, h0, r0⟩ := trodAll_cons hA
  obtain ⟨v1, vs1, d1, ds1, p1, q1, rfl, rfl, rfl, h1, r1⟩ := trodAll_cons r0
  obtain ⟨rfl, rfl, rfl⟩ := trodAll_nil r1
  obtain rfl : args = #[v0, v1] := by cases args; simp_all
  simp only [List.cons_append, List.nil_append, Rows.uptoBulkAll] at hbulk
  obtain ⟨x0, y0, b0, e0⟩ := open_intsB Try.underlying22 Try.underlying3 sz3 (hval 0 22 v0 rfl rfl) h0
  have z0 : x0.length ≤ 1048576 := by omega
  obtain ⟨x1, y1, b1, e1⟩ := open_intsB Try.underlying22 Try.underlying3 sz3 (hval 1 22 v1 rfl rfl) h1
  have z1 : x1.length ≤ 1048576 := by omega
  have hcall := (min_law y0 y1 z0 z1).use (w := W) (vs := [v0, v1]) ⟨e0, e1, trivial⟩
  exact law_post (s := Rows.automatonMinSpec) (tb := 4) (by kernel_rfl) (by kernel_rfl) (by kernel_rfl) Try.underlying4 rfl rfl hW' hcall
theorem over : Rows.automatonMinUptoRow.holds Try.pinned (Rows.OpenSpec.upto Rows.automatonMinSpec) :=
  OpenClaim.holds_of_cond 3 Try.f3 rfl rfl rfl rfl rfl rfl rfl ⟨rfl, rfl, rfl, rfl, rfl⟩ rfl rfl rfl rfl rfl (by kernel_rfl) Try.func3 (by kernel_rfl)
    (of_decide_eq_true (by kernel_rfl)) (by unfold Func.isWrapper; first | (rw [if_pos (by decide +kernel)]; kernel_rfl) | (rw [if_neg (by decide +kernel)]; exact ⟨rfl, rfl⟩))
    (fun os started H enc _ F => by rw [OpenClaim.pre_of_none' rfl]; exact lifted os started H enc F)
end automatonMin
end Go.Proofs.Ytjimlkpfmbachaa

namespace Go.Proofs.Ytjimlkpfmbachaa
open Go.Am Go.Wc Go.Wb Go.Wd
set_option linter.unusedVariables false
set_option linter.unusedSimpArgs false
theorem keyed56 : Maps.Keyed Try.prog 56 := .of_law (deep_law_laid (P := Try.prog) (m := 2) (by kernel_rfl) (by omega) (of_decide_eq_true (by kernel_rfl)) (by kernel_rfl) (by kernel_rfl))
theorem pk_ok {x : Nat × Nat} (h : smallP x) : ∃ l, keyOf Try.prog 56 (kvP x) = some l :=
  keyOf_pair (n := Try.prog.types.size - 1) Try.underlying56 Try.underlying3 sz56 sz3 (by kernel_rfl) (by kernel_rfl)
    (by have := h.1; simp only [Lit.wf, Bool.and_eq_true, decide_eq_true_eq]; exact ⟨Int.le_trans (by decide) (Int.natCast_nonneg _), by show (x.1 : Int) ≤ 9223372036854775807; omega⟩) (by have := h.2; simp only [Lit.wf, Bool.and_eq_true, decide_eq_true_eq]; exact ⟨Int.le_trans (by decide) (Int.natCast_nonneg _), by show (x.2 : Int) ≤ 9223372036854775807; omega⟩)
theorem fn28 : Fn2 Try.prog 28 Try.f28.ntmps 8 9 (Try.f28.body.getD .skip) := ⟨Try.f28, Try.func28, rfl, rfl, rfl, by kernel_rfl⟩
set_option maxRecDepth 100000 in
set_option maxHeartbeats 8000000 in
theorem searchP_call {next : Nat × Nat → Nat → Nat × Nat} {good : Nat × Nat → Bool} {size N : Nat} {start : Nat × Nat} {sz : Int} {U : List (Nat × Nat)} {g h : FuncId} {cg ch : List AV} (hsz : 1 ≤ size ∧ size ≤ 64) (hU : ∀ x ∈ U, ∀ s, s < size → next x s ∈ U) (h0 : start ∈ U) (hN : U.length ≤ N) (hB : U.length ≤ 4194304) (hz : (size : Int) = sz) (hS : ∀ x ∈ U, smallP x)
    (hg : ∀ x ∈ U, ∀ s, s < size → CallF Try.prog g ([pairI x, natI s] ++ cg) (.p (pairI (next x s)))) (hh : ∀ x ∈ U, CallF Try.prog h ([pairI x] ++ ch) (.p (bool (good x)))) :
    CallF Try.prog 28 [pairI start, int sz, .clo g cg, .clo h ch] (.p (.tup [resW (seekW next size good (N + 1) 0 [(start, [])]), bool (seekW next size good (N + 1) 0 [(start, [])]).isSome])) := by
  subst hz
  refine callF_of_code2 fn28 (Nat.le_of_ble_eq_true rfl) fun w0 M0 hM0 => ?_
  refine xC tb hM0 2 [0,1,2,3] [] rfl ?_
  refine oP rfl (pure_box rfl rfl rfl hM0) ?_
  refine xA tb hM0 6 [1,2,3,4] [] rfl ?_
  refine oS rfl (step_map rfl rfl rfl rfl rfl Try.underlying78 (fun q hq => by cases hq <;> exact ⟨_, _, rfl⟩) hM0) rfl ?_
  refine xA tb hM0 1 [1,2,3,4,17,18] [17] rfl ?_
  refine oS rfl (step_insert rfl (step_putK keyed56 rfl rfl rfl Try.underlying78 rfl rfl rfl rfl ((pk_ok (hS _ h0)).choose_spec) (fun q hq => by cases hq) (List.nodup_nil) hM0)) rfl ?_
  refine xA tb hM0 6 [1,2,3,4,10] [17] rfl ?_
  refine oP rfl (pure_aggl (pure_load_agg rfl ag56 sz56 rfl (Nat.le_of_ble_eq_true rfl)) rfl) ?_
  refine xA tb hM0 1 [1,2,3,10,21] [17] rfl ?_
  refine oS rfl (step_lit rfl rfl rfl rfl Try.underlying81 el80 rfl rfl rfl rfl hM0) rfl ?_
  refine xA tb hM0 10 [1,2,3,10,11,12] [17,22] rfl ?_
  refine lp (fun zm zs => ∃ (T : List (Stp (Nat × Nat))) (P : List (Pth (Nat × Nat))) (i : Nat), zm = N + 1 - i ∧ (Sr next size start U good N T P i) ∧ zs = ⟨85, [(1, .v .mx (natI size)), (2, .v .mx (.clo g cg)), (3, .v .mx (.clo h ch)), (10, .omap 17), (11, .own 22), (12, .v .pl (int i))], [(17, .mp (ksW kvP P) (vsW P.length)), (22, .arr 80 (T.map stpP))]⟩) ?_ ?_
  refine ⟨_, [(start, -1, 0)], [(start, [])], 0, rfl, sr_start h0, ?_⟩
  rfl
  rintro zm zs ⟨T, P, i, rfl, hL1_0, rfl⟩
  have hSr := hL1_0
  have hle := hSr.le
  have htl := hSr.tr.len
  have hpl := sk_len hSr.sk
  refine xA tb hM0 5 [1,2,3,10,11,12,23,24] [17,22] rfl ?_
  refine oP rfl (pure_lenm rfl Try.underlying81 rfl) ?_
  refine xA tb hM0 3 [1,2,3,10,11,12,26] [17,22] rfl ?_
  refine spC 26 rfl ?_ ?_ <;> intro h1 <;> try simp only [dq] at h1
  refine xA tb hM0 7 [1,2,3,10,11,12] [17,22] rfl ?_
  have hi : i < P.length := by omega
  have hxU : (P.getD i default).1 ∈ U := hSr.sk.sub _ (el_mem hi)
  refine xA tb hM0 4 [1,2,3,10,11,12,29,30,31] [17,22] rfl ?_
  refine oP rfl (pure_index_own rfl Try.underlying81 sz80 rfl rfl rfl (by rw [List.length_map]; omega)) ?_
  refine oP rfl (pure_field_pel rfl fd80_0 rfl rfl) ?_
  refine xA tb hM0 0 [1,2,3,10,11,12,29,33] [17,22] rfl ?_
  refine oP rfl (pure_load_pel_part rfl ag56 sz56 rfl rfl sz80 (by decide) (mget (by omega))) ?_
  refine oP rfl (pure_call rfl rfl rfl (by have e : (T.getD (i : Int).toNat default).1 = (P.getD i default).1 := hSr.tr.key i hi; show CallF _ _ ([pairI (T.getD (i : Int).toNat default).1] ++ ch) _; rw [e]; exact hh _ hxU) hM0) ?_
  refine xA tb hM0 2 [1,2,3,10,11,12,35] [17,22] rfl ?_
  refine spC 35 rfl ?_ ?_ <;> intro h2 <;> try simp only [dq] at h2
  have hgd : good (P.getD i default).1 = true := by assumption
  have hres := hSr.hit hN hi hgd
  refine xA tb hM0 3 [11,12] [22] rfl ?_
  refine oS rfl (step_nil rfl rfl rfl rfl rfl 3 hM0) rfl ?_
  refine xA tb hM0 10 [11,13,14] [13,22] rfl ?_
  refine lp (fun zm zs => ∃ (at_ : Nat) (ws : List Nat), zm = i + at_ ∧ (at_ ≤ i) ∧ (ws.length + at_ ≤ i) ∧ ((P.getD i default).2 = (P.getD at_ default).2 ++ ws.reverse) ∧ zs = ⟨85, [(11, .own 22), (13, .own 13), (14, .v .pl (int at_))], [(13, .arr 3 ((natL ws).map int)), (22, .arr 80 (T.map stpP))]⟩) ?_ ?_
  exact ⟨_, i, [], rfl, Nat.le_refl _, by simp, by simp, rfl⟩
  rintro zm zs ⟨at_, ws, rfl, hL2_0, hL2_1, hL2_2, rfl⟩
  refine xA tb hM0 5 [11,13,14,37,38] [13,22] rfl ?_
  refine oP rfl (pure_index_own rfl Try.underlying81 sz80 rfl rfl rfl (by rw [List.length_map]; omega)) ?_
  refine oP rfl (pure_field_pel rfl fd80_1 rfl rfl) ?_
  refine xA tb hM0 0 [11,13,14,40] [13,22] rfl ?_
  refine oP rfl (pure_load_pel rfl ag3 rfl rfl (mget (by omega)) rfl) ?_
  refine xA tb hM0 3 [11,13,14,42] [13,22] rfl ?_
  refine spC 42 rfl ?_ ?_ <;> intro h3 <;> try simp only [dq] at h3
  have hw := hSr.tr.way at_ (by omega)
  obtain ⟨f, t, hf1, hf2, hf3, hf4⟩ : ∃ f s : Nat, f < at_ ∧ (T.getD at_ default).2.1 = (f : Int) ∧ (T.getD at_ default).2.2 = (s : Int) ∧ (P.getD at_ default).2 = (P.getD f default).2 ++ [s] := hw.resolve_left (fun q => by omega)
  refine xA tb hM0 9 [11,14,48,49,50] [13,22] rfl ?_
  refine oP rfl (pure_index_own rfl Try.underlying81 sz80 rfl rfl rfl (by rw [List.length_map]; omega)) ?_
  refine oP rfl (pure_field_pel rfl fd80_2 rfl rfl) ?_
  refine xA tb hM0 0 [11,14,48,52] [13,22] rfl ?_
  refine oP rfl (pure_load_pel rfl ag3 rfl rfl (mget (by omega)) rfl) ?_
  refine oP rfl (pure_lit rfl Try.underlying22 el3 rfl rfl rfl rfl hM0) ?_
  refine xA tb hM0 0 [11,14,48,54] [13,22] rfl ?_
  refine oS rfl (step_append rfl rfl rfl rfl Try.underlying22 el3 rfl rfl hM0 (src_pl rfl (one_len (by rfl))) (by simp only [List.length_map, List.length_cons, List.length_nil]; omega) (by simp only [List.length_map, List.length_cons, List.length_nil]; omega)) rfl ?_
  refine xA tb hM0 7 [11,13,43,44] [13,22] rfl ?_
  refine oP rfl (pure_index_own rfl Try.underlying81 sz80 rfl rfl rfl (by rw [List.length_map]; omega)) ?_
  refine oP rfl (pure_field_pel rfl fd80_1 rfl rfl) ?_
  refine xA tb hM0 0 [11,13,46] [13,22] rfl ?_
  refine oP rfl (pure_load_pel rfl ag3 rfl rfl (mget (by omega)) rfl) ?_
  refine xA tb hM0 2 [11,13,14] [13,22] rfl ?_
  refine nx ?_
  refine ⟨_, ⟨f, ws ++ [t], rfl, by omega, by simp only [List.length_append, List.length_cons, List.length_nil]; omega, by rw [hL2_2, hf4]; simp, ?_⟩, by omega⟩
  rw [← hf2, natL_snoc, List.map_append, ← hf3]; rfl
  have hw2 : (P.getD at_ default).2 = [] := (hSr.tr.way at_ (by omega)).elim (fun q => q.2) (fun ⟨f, t, q1, q2, q3, q4⟩ => by omega)
  refine xA tb hM0 7 [13] [13] rfl ?_
  have hres2 : (P.getD i default).2 = ws.reverse := by rw [hL2_2, hw2]; rfl
  refine xA tb hM0 2 [13,56] [13] rfl ?_
  refine oS rfl (step_revI revsI rfl rfl rfl rfl rfl rfl sz3 (by rw [List.length_map]; omega) hM0) rfl ?_
  refine xA tb hM0 16 [] [] rfl ?_
  refine end2_ret rfl rfl ?_
  rw [hres]
  refine ⟨?_, rfl⟩
  show AV.sl (((natL ws).reverse).map int) = nats (P.getD i default).2
  rw [hres2, show (natL ws).reverse = natL ws.reverse from List.map_reverse.symm, natL_nats]
  have hgd : good (P.getD i default).1 = false := by assumption
  refine xA tb hM0 10 [1,2,3,10,11,12,59,60] [17,22] rfl ?_
  refine lp (fun zm zs => ∃ (T2 : List (Stp (Nat × Nat))) (s : Nat), zm = size - s ∧ (s ≤ size) ∧ (Tr T2 (growW next (P.getD i default) P s)) ∧ zs = ⟨85, [(1, .v .mx (natI size)), (2, .v .mx (.clo g cg)), (3, .v .mx (.clo h ch)), (10, .omap 17), (11, .own 22), (12, .v .pl (int i)), (59, .v .mx (natI size)), (60, .v .pl (int s))], [(17, .mp (ksW kvP (growW next (P.getD i default) P s)) (vsW (growW next (P.getD i default) P s).length)), (22, .arr 80 (T2.map stpP))]⟩) ?_ ?_
  exact ⟨_, T, 0, rfl, Nat.zero_le _, hSr.tr, rfl⟩
  rintro zm zs ⟨T2, s, rfl, hL3_0, hL3_1, rfl⟩
  have hgr := hSr.grow hU hi hL3_0
  have hgl := hgr.2.length_le
  have hgu := hgr.1
  have htl2 := hL3_1.len
  have hPi : (growW next (P.getD i default) P s).getD i default = (P.getD i default) := pre_at hgr.2 hi
  have hT2 : (T2.getD i default).1 = (P.getD i default).1 := (hL3_1.key i (by omega)).trans (congrArg Prod.fst hPi)
  have hsk := (hSr.sk.grow hU (pth_get hi) s hL3_0).1
  have hnd2 := hsk.nodup
  have hsb : ∀ z ∈ keysW (growW next (P.getD i default) P s), z ∈ U := fun z hz => by obtain ⟨p, hp, rfl⟩ := List.mem_map.1 hz; exact hsk.sub p hp
  have hkn : s < size → ∃ l, keyOf Try.prog 56 (kvP (next (P.getD i default).1 s)) = some l := fun h => pk_ok (hS _ (hU _ hxU s h))
  refine xA tb hM0 6 [1,2,3,10,11,12,59,60,61] [17,22] rfl ?_
  refine spC 61 rfl ?_ ?_ <;> intro h4 <;> try simp only [dq] at h4
  refine xA tb hM0 16 [1,2,3,10,11,12,15,59,60,63,64,65] [17,22] rfl ?_
  refine oP rfl (pure_index_own rfl Try.underlying81 sz80 rfl rfl rfl (by rw [List.length_map]; omega)) ?_
  refine oP rfl (pure_field_pel rfl fd80_0 rfl rfl) ?_
  refine xA tb hM0 0 [1,2,3,10,11,12,15,59,60,63,67] [17,22] rfl ?_
  refine oP rfl (pure_load_pel_part rfl ag56 sz56 rfl rfl sz80 (by decide) (mget (by omega))) ?_
  refine xA tb hM0 1 [1,2,3,10,11,12,15,59,60,63,68,69] [17,22] rfl ?_
  refine oP rfl (pure_call rfl rfl rfl (by have e : (T2.getD (i : Int).toNat default).1 = (P.getD i default).1 := hT2; show CallF _ _ ([pairI (T2.getD (i : Int).toNat default).1, natI s] ++ cg) _; rw [e]; exact hg _ hxU s (by omega)) hM0) ?_
  refine xA tb hM0 8 [1,2,3,10,11,12,15,16,59,60,71,72] [16,17,22] rfl ?_
  refine oP rfl (pure_scl (pure_mlookK keyed56 rfl Try.underlying78 zv4 rfl rfl rfl (hkn (by omega)).choose_spec (fun q hq => by obtain ⟨z, hz, rfl⟩ := List.mem_map.1 hq; exact pk_ok (hS z (hsb z hz))) (nodup_kv kvP_inj hnd2) (look_w (kv := kvP) kvP_inj _ _))) ?_
  refine xA tb hM0 3 [1,2,3,10,11,12,15,16,59,60,74] [16,17,22] rfl ?_
  refine spC 74 rfl ?_ ?_ <;> intro h5 <;> try simp only [dq] at h5
  refine xA tb hM0 5 [1,2,3,10,11,12,15,16,59,60,75,76] [16,17,22] rfl ?_
  refine oS rfl (step_putK keyed56 rfl rfl rfl Try.underlying78 rfl rfl rfl rfl ((hkn (by omega)).choose_spec) (fun q hq => by obtain ⟨z, hz, rfl⟩ := List.mem_map.1 hq; exact pk_ok (hS z (hsb z hz))) (nodup_kv kvP_inj hnd2) hM0) rfl ?_
  refine xA tb hM0 8 [1,2,3,10,12,59,60,77,81] [17,22] rfl ?_
  refine oP rfl (pure_lit rfl Try.underlying81 el80 rfl rfl rfl rfl hM0) ?_
  refine oS rfl (step_append rfl rfl rfl rfl Try.underlying81 el80 rfl rfl hM0 (src_pl rfl (one_len (by rfl))) (by rw [List.length_map]; simp only [List.length_cons, List.length_nil]; omega) (by rw [List.length_map]; simp only [List.length_cons, List.length_nil]; omega)) rfl ?_
  refine xA tb hM0 5 [1,2,3,10,11,12,59,60] [17,22] rfl ?_
  refine oP rfl (pure_addi rfl rfl rfl (by omega)) ?_
  refine xA tb hM0 2 [1,2,3,10,11,12,59,60] [17,22] rfl ?_
  refine nx ?_
  have hnew : next (P.getD i default).1 s ∉ keysW (growW next (P.getD i default) P s) := by assumption
  have hsn := hL3_1.snoc (k := next (P.getD i default).1 s) (i := i) (s := s) (by omega)
  rw [hPi] at hsn
  refine ⟨_, ⟨T2 ++ [(next (P.getD i default).1 s, (i : Int), (s : Int))], s + 1, rfl, by omega, by rw [growW_new hnew]; exact hsn, ?_⟩, by omega⟩
  rw [growW_new hnew, ← put_kw (kv := kvP) kvP_inj hnew, ← put_vw (kv := kvP) kvP_inj hnew, List.map_append]; rfl
  refine xA tb hM0 5 [1,2,3,10,11,12,59,60] [17,22] rfl ?_
  refine oP rfl (pure_addi rfl rfl rfl (by omega)) ?_
  refine xA tb hM0 2 [1,2,3,10,11,12,59,60] [17,22] rfl ?_
  refine nx ?_
  have hold : next (P.getD i default).1 s ∈ keysW (growW next (P.getD i default) P s) := by assumption
  exact ⟨_, ⟨T2, s + 1, rfl, by omega, by rw [growW_old hold]; exact hL3_1, by rw [growW_old hold]; rfl⟩, by omega⟩
  refine xA tb hM0 7 [1,2,3,10,11,12] [17,22] rfl ?_
  obtain rfl : size = s := by omega
  refine xA tb hM0 2 [1,2,3,10,11,27] [17,22] rfl ?_
  refine oP rfl (pure_addi rfl rfl rfl (by omega)) ?_
  refine xA tb hM0 2 [1,2,3,10,11,12] [17,22] rfl ?_
  refine nx ?_
  exact ⟨_, ⟨T2, (growW next (P.getD i default) P size), i + 1, rfl, hSr.step hU hN hi hgd hL3_1, rfl⟩, by omega⟩
  refine xA tb hM0 13 [] [] rfl ?_
  refine end2_ret rfl rfl ?_
  rw [hSr.miss (by omega)]
  exact ⟨rfl, rfl⟩
end Go.Proofs.Ytjimlkpfmbachaa

