/-
  The law CollateSorts holds: for every input it returns true, and its arguments read as before.
-/
import Derived.Test.YtcimmcjnkphagaaCr
import Derived.Test.YtcimmcjnkphagaaCl
import Derived.Test.YtcimmcjnkphagaaCm
import Derived.Test.YtcimmcjnkphagaaCn
import Derived.Test.YtcimmcjnkphagaaCo
import Derived.Test.YtcimmcjnkphagaaPo
namespace Go.Proofs.Ytcimmcjnkphagaa
open Go.Am Go.Wb
set_option linter.unusedVariables false
set_option linter.unusedSimpArgs false
theorem fn5 : Fn1 Try.prog 5 Try.f5.ntmps 12 (Try.f5.body.getD .skip) := ⟨Try.f5, Try.func5, rfl, rfl, rfl, by kernel_rfl⟩
set_option maxRecDepth 100000 in
set_option maxHeartbeats 8000000 in
theorem sorts_law {l m : List Int} {words : List (List Int)} {many ati how : Int} (hl : l.length ≤ 9223372036854775807) (hl64 : I64s l) (hm : m.length ≤ 9223372036854775807) (hw : words.length ≤ 9223372036854775807) (hww : bigL words) (hmany : I64 many) (hat : I64 ati) (hhow : I64 how) :
    CallF Try.prog 5 [ints l, ints m, intss words, int many, int ati, int how] (.p (bool true)) := by
  have hA := lettersP_ok l
  have hA0 := lettersP_len l
  have hB := spoiltP_ok hA ati how many
  have hma := around_lt (n := many) (most := 20) (by decide)
  obtain ⟨W, hWe⟩ : ∃ W, W = wordsP (lettersP l) m (around many 20) ++ rawP words := ⟨_, rfl⟩
  have hW : shortW W := by rw [hWe]; exact words_short _ _ _ (by omega) _
  have hW1 := hW.1
  have hW2 : W.length ≤ 1099511627776 := by omega
  obtain ⟨V, hVe⟩ : ∃ V, V = W ++ W.take (W.length / 3) := ⟨_, rfl⟩
  have hV : shortV V := by rw [hVe]; exact ⟨by rw [List.length_append, List.length_take]; omega, fun v hv => (List.mem_append.1 hv).elim (hW.2 v) fun h => hW.2 v (List.mem_of_mem_take h)⟩
  have hV1 : V.length ≤ 1099511627776 := by have := hV.1; omega
  refine callF_of_code fn5 (Nat.le_of_ble_eq_true rfl) fun w0 M0 hM0 => ?_
  refine code_seq ?_
  refine code_ops _ rfl ?_
  refine ol_pure rfl rfl rfl (pure_assign rfl rfl) ?_
  refine ol_nil ?_
  refine seq_pick 57 [(0, _), (1, _), (2, _), (3, _), (4, _), (5, _)] [] rfl ⟨rfl, rfl, rfl, rfl, rfl, rfl, trivial⟩ trivial ?_
  refine code_seq ?_
  refine code_ops _ rfl ?_
  refine ol_pure rfl rfl rfl (pure_move rfl rfl) ?_
  refine ol_pure rfl rfl rfl (pure_call rfl rfl rfl (letters_call hl hl64) hM0) ?_
  refine ol_pure rfl rfl rfl (pure_assign rfl rfl) ?_
  refine ol_nil ?_
  refine seq_pick 57 [(1, _), (2, _), (3, _), (4, _), (5, _), (13, _)] [] rfl ⟨rfl, rfl, rfl, rfl, rfl, rfl, trivial⟩ trivial ?_
  refine code_seq ?_
  refine code_ops _ rfl ?_
  refine ol_pure rfl rfl rfl (pure_move rfl rfl) ?_
  refine ol_pure rfl rfl rfl (pure_move rfl rfl) ?_
  refine ol_pure rfl rfl rfl (pure_move rfl rfl) ?_
  refine ol_pure rfl rfl rfl (pure_call rfl rfl rfl (around_call hmany (by decide)) hM0) ?_
  refine ol_step rfl (step_call_own rfl rfl rfl rfl rfl rfl (words_call hA.len (by omega) hm (by omega)) hM0) ?_
  refine ol_pure rfl rfl rfl (pure_move rfl rfl) ?_
  refine ol_pure rfl rfl rfl (pure_call rfl rfl rfl (raw_call hw hww) hM0) ?_
  refine ol_step rfl (step_append rfl rfl rfl rfl Try.underlying23 el22 rfl rfl hM0 (src_plm rfl (fun _ => rfl)) (by have h1 := hW.1; rw [hWe, List.length_append] at h1; simp only [List.length_map]; omega) (by have h1 := hW.1; rw [hWe, List.length_append] at h1; simp only [List.length_map]; omega)) ?_
  refine ol_pure rfl rfl rfl (pure_assign rfl rfl) ?_
  refine ol_nil ?_
  refine seq_pick 57 [(3, _), (4, _), (5, _), (13, _), (14, _)] [(22, _)] rfl ⟨rfl, rfl, rfl, rfl, rfl, trivial⟩ ⟨rfl, trivial⟩ ?_
  refine code_seq ?_
  refine code_ops _ rfl ?_
  refine ol_pure rfl rfl rfl (pure_move rfl rfl) ?_
  refine ol_pure rfl rfl rfl (pure_move rfl rfl) ?_
  refine ol_pure rfl rfl rfl (pure_move rfl rfl) ?_
  refine ol_pure rfl rfl rfl (pure_len rfl Try.underlying23 rfl) ?_
  refine ol_pure rfl rfl rfl (pure_quon rfl rfl rfl (by have h1 := hW.1; rw [hWe, List.length_append] at h1; simp only [List.length_append, List.length_map]; omega)) ?_
  refine ol_pure rfl rfl rfl (pure_slice_own rfl Try.underlying23 sz22 rfl rfl rfl (by have h1 := hW.1; rw [hWe, List.length_append] at h1; simp only [List.length_map, List.length_append]; omega)) ?_
  refine ol_step rfl (step_append rfl rfl rfl rfl Try.underlying23 el22 rfl rfl hM0 (src_vsl rfl rfl sz22) (by have h1 := hW.1; rw [hWe, List.length_append] at h1; simp only [List.length_map, List.length_append, List.length_take, List.length_drop]; omega) (by have h1 := hW.1; rw [hWe, List.length_append] at h1; simp only [List.length_map, List.length_append, List.length_take, List.length_drop]; omega)) ?_
  refine ol_pure rfl rfl rfl (pure_assign rfl rfl) ?_
  refine ol_nil ?_
  refine seq_pick 57 [(3, _), (4, _), (5, _), (13, _), (14, _)] [(22, _)] rfl ⟨rfl, rfl, rfl, rfl, rfl, trivial⟩ ⟨rfl, trivial⟩ ?_
  refine code_cut (fun zs => zs = ⟨57, [(13, .v .pl (letters (lettersP l))), (14, .v .pl (intss V)), (15, .v .pl (letters (spoiltP (lettersP l) ati how many)))], []⟩) ?_ ?_
  · skip
    refine code_frz 57 [(3, _), (4, _), (5, _), (13, _), (14, _)] [] hM0 rfl ⟨.inl rfl, .inl rfl, .inl rfl, .inl rfl, .inr ⟨_, _, rfl, rfl, rfl⟩, trivial⟩ trivial ?_
    refine code_ops _ rfl ?_
    refine ol_pure rfl rfl rfl (pure_move rfl rfl) ?_
    refine ol_pure rfl rfl rfl (pure_move rfl rfl) ?_
    refine ol_pure rfl rfl rfl (pure_move rfl rfl) ?_
    refine ol_pure rfl rfl rfl (pure_move rfl rfl) ?_
    refine ol_pure rfl rfl rfl (pure_call rfl rfl rfl (spoilt_call hA.len (by omega) hat hhow hmany) hM0) ?_
    refine ol_pure rfl rfl rfl (pure_assign rfl rfl) ?_
    refine ol_nil ?_
    refine cut_next (n := 57) (l := [(13, _), (14, _), (15, _)]) (o' := []) rfl ⟨rfl, rfl, rfl, trivial⟩ trivial ?_   -- cut 5 end 1
    rw [hVe, hWe, intss, List.map_append, List.map_take, List.map_append, List.drop_zero, third_len]; rfl
  · rintro zs ⟨rfl⟩
    refine code_seq ?_
    refine code_ops _ rfl ?_
    refine ol_pure rfl rfl rfl (pure_move rfl rfl) ?_
    refine ol_pure rfl rfl rfl (pure_move rfl rfl) ?_
    refine ol_pure rfl rfl rfl (pure_call rfl rfl rfl (csort_call hA.len hA.txt hV1 hV.short) hM0) ?_
    refine ol_pure rfl rfl rfl (pure_move rfl rfl) ?_
    refine ol_pure rfl rfl rfl (pure_move rfl rfl) ?_
    refine ol_pure rfl rfl rfl (pure_call rfl rfl rfl (rsort_call hA.len hA.txt hV1 hV.short) hM0) ?_
    refine ol_pure rfl rfl rfl (pure_callb (b' := true) rfl rfl rfl (same_call (Nat.le_trans (sort_len _ _) (by omega))) hM0 (by unfold sortP; simp)) ?_
    refine ol_pick 57 [(14, _), (15, _), (44, _)] [] rfl ⟨rfl, rfl, rfl, trivial⟩ trivial ?_
    refine ol_pure rfl rfl rfl (pure_move rfl rfl) ?_
    refine ol_pure_g rfl rfl rfl rfl rfl (pure_move rfl rfl) ?_
    refine ol_pure_g rfl rfl rfl rfl rfl (pure_move rfl rfl) ?_
    refine ol_pure_g rfl rfl rfl rfl rfl (pure_call rfl rfl rfl (csort_call hB.len hB.txt hV1 hV.short) hM0) ?_
    refine ol_pure_g rfl rfl rfl rfl rfl (pure_move rfl rfl) ?_
    refine ol_pure_g rfl rfl rfl rfl rfl (pure_move rfl rfl) ?_
    refine ol_pure_g rfl rfl rfl rfl rfl (pure_call rfl rfl rfl (rsort_call hB.len hB.txt hV1 hV.short) hM0) ?_
    refine ol_pick 57 [(45, _), (48, _), (51, _)] [] rfl ⟨rfl, rfl, rfl, trivial⟩ trivial ?_
    refine ol_pure_g rfl rfl rfl rfl rfl (pure_callb (b' := true) rfl rfl rfl (same_call (Nat.le_trans (sort_len _ _) (by omega))) hM0 (by unfold sortP; simp)) ?_
    refine ol_pure rfl rfl rfl (pure_pick_t rfl rfl rfl rfl) ?_
    refine ol_pure rfl rfl rfl (pure_move rfl rfl) ?_
    refine ol_pure_g rfl rfl rfl rfl rfl (pure_call rfl rfl rfl (lives_call) hM0) ?_
    refine ol_pure rfl rfl rfl (pure_pick_t rfl rfl rfl rfl) ?_
    refine ol_pure rfl rfl rfl (pure_assign rfl rfl) ?_
    refine ol_nil ?_
    refine seq_pick 57 [(12, _)] [] rfl ⟨rfl, trivial⟩ trivial ?_
    refine code_ret ?_
    refine end_ret rfl ?_   -- end 1
    rfl
/-! The statement CollateSortsSaid. -/
namespace collateSorts
open Go.ChangeShapes Go.WideShapes Go.ChangeAt Go.RowKit Go.Am
theorem own : ownKnob Try.prog.godebug = none := by kernel_rfl
set_option maxRecDepth 100000 in
theorem lifted (os : Os) (started : os.Started) (H : Type) (enc : TypeId × Value → H) :
    ReturnsInHanded {} Try.checked os 5 .any (Rows.collateSortsSpec.pre6 enc Try.prog Try.f5 Rows.collateSortsRow.domain false) (Rows.collateSortsSpec.post enc Try.prog Try.f5 false true false false) := by
  refine returnsInHanded_of_change (C := Try.checked) own started (by kernel_rfl) Try.func5
    (ChangeSpec.witness6 (enc := enc) (C := Try.checked) false ⟨#[], #[.slice none 0 0, .slice none 0 0, .slice none 0 0, .int .i64 0, .int .i64 0, .int .i64 0], []⟩ 8 (by kernel_rfl) (by kernel_rfl) (by kernel_rfl) (by kernel_rfl)) ?_
  intro W base args ds gs before hval0 hW hcnd _
  have hval : ∀ (j : Nat) t v, Try.f5.params[j]? = some t → args[j]? = some v → Value.okWide Try.prog W .any base t v := hval0
  have hW' := hW
  obtain ⟨p, q, hA0, hV, rfl, hfz, hnd⟩ := hW
  have hA : DataW.TrodAll enc Try.prog W 0 (fun _ => true) true Try.f5.params.toList args.toList ds p := hA0
  rw [Try.params5] at hA hval
  obtain ⟨v0, vs0, d0, ds0, p0, q0, hargs, rfl, rfl, h0, r0⟩ := trodAll_cons hA
  obtain ⟨v1, vs1, d1, ds1, p1, q1, rfl, rfl, rfl, h1, r1⟩ := trodAll_cons r0
  obtain ⟨v2, vs2, d2, ds2, p2, q2, rfl, rfl, rfl, h2, r2⟩ := trodAll_cons r1
  obtain ⟨v3, vs3, d3, ds3, p3, q3, rfl, rfl, rfl, h3, r3⟩ := trodAll_cons r2
  obtain ⟨v4, vs4, d4, ds4, p4, q4, rfl, rfl, rfl, h4, r4⟩ := trodAll_cons r3
  obtain ⟨v5, vs5, d5, ds5, p5, q5, rfl, rfl, rfl, h5, r5⟩ := trodAll_cons r4
  obtain ⟨rfl, rfl, rfl⟩ := trodAll_nil r5
  obtain rfl : args = #[v0, v1, v2, v3, v4, v5] := by cases args; simp_all
  obtain ⟨x0, y0, z0, e0⟩ := open_intsA Try.underlying22 Try.underlying3 sz3 (hval 0 22 v0 rfl rfl) h0
  obtain ⟨x1, y1, z1, e1⟩ := open_intsA Try.underlying22 Try.underlying3 sz3 (hval 1 22 v1 rfl rfl) h1
  obtain ⟨x2, y2, z2, e2⟩ := open_intssA Try.underlying23 Try.underlying22 Try.underlying3 sz22 sz3 (hval 2 23 v2 rfl rfl) h2
  obtain ⟨x3, y3, e3⟩ := open_intA Try.underlying3 (hval 3 3 v3 rfl rfl) h3
  obtain ⟨x4, y4, e4⟩ := open_intA Try.underlying3 (hval 4 3 v4 rfl rfl) h4
  obtain ⟨x5, y5, e5⟩ := open_intA Try.underlying3 (hval 5 3 v5 rfl rfl) h5
  have hcall := (sorts_law z0 y0 z1 z2 (fun y hy => (y2 y hy).2) y3 y4 y5).use (w := W) (vs := [v0, v1, v2, v3, v4, v5]) ⟨e0, e1, e2, e3, e4, e5, trivial⟩
  exact law_post (tb := 4) (by kernel_rfl) (by kernel_rfl) (by kernel_rfl) Try.underlying4 rfl rfl hW' hcall
theorem over : Rows.collateSortsRow.holds Try.pinned (OpenSpec.ofChange Rows.collateSortsSpec) :=
  OpenClaim.holds_of_wide 5 Try.f5 rfl rfl rfl rfl rfl rfl rfl ⟨rfl, rfl, rfl, rfl, rfl⟩ rfl rfl rfl rfl rfl (by kernel_rfl) Try.func5 (by kernel_rfl)
    (of_decide_eq_true (by kernel_rfl)) (by unfold Func.isWrapper; first | (rw [if_pos (by decide +kernel)]; kernel_rfl) | (rw [if_neg (by decide +kernel)]; exact ⟨rfl, rfl⟩))
    (fun os started H enc _ => lifted os started H enc)
end collateSorts
theorem collateSorts_holds : Rows.CollateSortsSaid := collateSorts.over
end Go.Proofs.Ytcimmcjnkphagaa
