/-
  The law CollateCompares holds: for every input it returns true, and its arguments read as before.
-/
import Derived.Test.YtcimmcjnkphagaaCr
import Derived.Test.YtcimmcjnkphagaaCl
import Derived.Test.YtcimmcjnkphagaaCm
import Derived.Test.YtcimmcjnkphagaaCn
import Derived.Test.YtcimmcjnkphagaaCe
import Derived.Test.YtcimmcjnkphagaaPo
namespace Go.Proofs.Ytcimmcjnkphagaa
open Go.Am Go.Wb
set_option linter.unusedVariables false
set_option linter.unusedSimpArgs false
theorem fn4 : Fn1 Try.prog 4 Try.f4.ntmps 12 (Try.f4.body.getD .skip) := ⟨Try.f4, Try.func4, rfl, rfl, rfl, by kernel_rfl⟩
set_option maxRecDepth 100000 in
set_option maxHeartbeats 8000000 in
theorem compares_law {l m : List Int} {words : List (List Int)} {ati how lv : Int} (hl : l.length ≤ 9223372036854775807) (hl64 : I64s l) (hm : m.length ≤ 9223372036854775807) (hw : words.length ≤ 9223372036854775807) (hww : bigL words) (hat : I64 ati) (hhow : I64 how) (hlv : I64 lv) :
    CallF Try.prog 4 [ints l, ints m, intss words, int ati, int how, int lv] (.p (bool true)) := by
  have hA := lettersP_ok l
  have hA0 := lettersP_len l
  have hall : ∀ i, okA ([lettersP l, spoiltP (lettersP l) ati how lv].getD i default) := fun i => by
    match i with
    | 0 => exact hA
    | 1 => exact spoiltP_ok hA _ _ _
    | i + 2 => exact (show okA [] from ⟨by decide, fun x hx => by cases hx⟩)
  obtain ⟨W, hWe⟩ : ∃ W, W = wordsP (lettersP l) m 5 ++ rawP words := ⟨_, rfl⟩
  have hW : shortW W := by rw [hWe]; exact words_short _ _ _ (by decide) _
  have hW1 := hW.1
  have hW2 : W.length ≤ 1099511627776 := by omega
  refine callF_of_code fn4 (Nat.le_of_ble_eq_true rfl) fun w0 M0 hM0 => ?_
  refine code_seq ?_
  refine code_ops _ rfl ?_
  refine ol_pure rfl rfl rfl (pure_assign rfl rfl) ?_
  refine ol_nil ?_
  refine seq_pick 162 [(0, _), (1, _), (2, _), (3, _), (4, _), (5, _)] [] rfl ⟨rfl, rfl, rfl, rfl, rfl, rfl, trivial⟩ trivial ?_
  refine code_seq ?_
  refine code_ops _ rfl ?_
  refine ol_pure rfl rfl rfl (pure_move rfl rfl) ?_
  refine ol_pure rfl rfl rfl (pure_call rfl rfl rfl (letters_call hl hl64) hM0) ?_
  refine ol_pure rfl rfl rfl (pure_assign rfl rfl) ?_
  refine ol_nil ?_
  refine seq_pick 162 [(1, _), (2, _), (3, _), (4, _), (5, _), (13, _)] [] rfl ⟨rfl, rfl, rfl, rfl, rfl, rfl, trivial⟩ trivial ?_
  refine code_seq ?_
  refine code_ops _ rfl ?_
  refine ol_pure rfl rfl rfl (pure_move rfl rfl) ?_
  refine ol_pure rfl rfl rfl (pure_move rfl rfl) ?_
  refine ol_pure rfl rfl rfl (pure_move rfl rfl) ?_
  refine ol_pure rfl rfl rfl (pure_move rfl rfl) ?_
  refine ol_pure rfl rfl rfl (pure_move rfl rfl) ?_
  refine ol_pure rfl rfl rfl (pure_call rfl rfl rfl (spoilt_call hA.len (by omega) hat hhow hlv) hM0) ?_
  refine ol_pure rfl rfl rfl (pure_lit rfl Try.underlying28 el24 rfl rfl rfl rfl hM0) ?_
  refine ol_pure rfl rfl rfl (pure_assign rfl rfl) ?_
  refine ol_nil ?_
  refine seq_pick 162 [(1, _), (2, _), (5, _), (13, _), (14, _)] [] rfl ⟨rfl, rfl, rfl, rfl, rfl, trivial⟩ trivial ?_
  refine code_seq ?_
  refine code_ops _ rfl ?_
  refine ol_pure rfl rfl rfl (pure_move rfl rfl) ?_
  refine ol_pure rfl rfl rfl (pure_move rfl rfl) ?_
  refine ol_step rfl (step_call_own rfl rfl rfl rfl rfl rfl (words_call hA.len (by omega) hm (by decide)) hM0) ?_
  refine ol_pure rfl rfl rfl (pure_move rfl rfl) ?_
  refine ol_pure rfl rfl rfl (pure_call rfl rfl rfl (raw_call hw hww) hM0) ?_
  refine ol_step rfl (step_append rfl rfl rfl rfl Try.underlying23 el22 rfl rfl hM0 (src_plm rfl (fun _ => rfl)) (by have h1 := hW.1; rw [hWe, List.length_append] at h1; simp only [List.length_map]; omega) (by have h1 := hW.1; rw [hWe, List.length_append] at h1; simp only [List.length_map]; omega)) ?_
  refine ol_pure rfl rfl rfl (pure_assign rfl rfl) ?_
  refine ol_nil ?_
  refine seq_pick 162 [(5, _), (14, _), (15, _)] [(31, _)] rfl ⟨rfl, rfl, rfl, trivial⟩ ⟨rfl, trivial⟩ ?_
  refine code_seq ?_
  refine code_seq ?_
  refine code_frz 162 [(5, _), (14, _), (15, _)] [] hM0 rfl ⟨.inl rfl, .inl rfl, .inr ⟨_, _, rfl, rfl, rfl⟩, trivial⟩ trivial ?_
  refine code_ops _ rfl ?_
  refine ol_pure rfl rfl rfl (pure_assign rfl rfl) ?_
  refine ol_nil ?_
  refine seq_pick 162 [(5, _), (14, _), (15, _), (16, _)] [] rfl ⟨rfl, rfl, rfl, rfl, trivial⟩ trivial ?_
  refine code_block ?_
  refine code_loopM (fun zm zs => ∃ i : Nat, zm = 2 - i ∧ (i ≤ 2) ∧ zs = ⟨162, [(5, .v .mx (int lv)), (14, .v .pl (.sl ([lettersP l, spoiltP (lettersP l) ati how lv].map letters))), (15, .v .pl (intss W)), (16, .v .pl (int i))], []⟩) (loop_init (n := 162) (l := [(5, _), (14, _), (15, _), (16, _)]) (o' := []) rfl ⟨rfl, rfl, rfl, rfl, trivial⟩ trivial ?_) ?_
  · refine ⟨_, 0, rfl, Nat.zero_le _, ?_⟩
    rw [hWe, intss, List.map_append]; rfl
  · rintro zm zs ⟨i, rfl, hL1_0, rfl⟩
    refine code_seq ?_
    refine code_seq ?_
    refine code_ops _ rfl ?_
    refine ol_pure rfl rfl rfl (pure_move rfl rfl) ?_
    refine ol_pure rfl rfl rfl (pure_lss rfl rfl rfl) ?_
    refine ol_nil ?_
    refine seq_pick 162 [(5, _), (14, _), (15, _), (16, _), (36, _)] [] rfl ⟨rfl, rfl, rfl, rfl, rfl, trivial⟩ trivial ?_
    refine code_cond rfl (fun h1 => ?_) (fun h1 => ?_)
    · try simp only [decide_eq_true_eq, decide_eq_false_iff_not, Bool.not_eq_true', Bool.not_eq_false', Bool.and_eq_true, Bool.or_eq_true, Bool.and_eq_false_iff, List.length_map, Int.toNat_natCast] at h1
      refine code_skip ?_
      refine seq_pick 162 [(5, _), (14, _), (15, _), (16, _)] [] rfl ⟨rfl, rfl, rfl, rfl, trivial⟩ trivial ?_
      refine code_seq ?_
      refine code_block ?_
      refine code_seq ?_
      refine code_ops _ rfl ?_
      refine ol_pure rfl rfl rfl (pure_assign rfl rfl) ?_
      refine ol_nil ?_
      refine seq_pick 162 [(5, _), (14, _), (15, _), (16, _), (17, _)] [] rfl ⟨rfl, rfl, rfl, rfl, rfl, trivial⟩ trivial ?_
      refine code_block ?_
      refine code_loopM (fun zm zs => ∃ k : Nat, zm = W.length - k ∧ (k ≤ W.length) ∧ zs = ⟨162, [(5, .v .mx (int lv)), (14, .v .pl (.sl ([lettersP l, spoiltP (lettersP l) ati how lv].map letters))), (15, .v .pl (intss W)), (16, .v .pl (int i)), (17, .v .pl (int k))], []⟩) (loop_init (n := 162) (l := [(5, _), (14, _), (15, _), (16, _), (17, _)]) (o' := []) rfl ⟨rfl, rfl, rfl, rfl, rfl, trivial⟩ trivial ?_) ?_
      · exact ⟨_, 0, rfl, Nat.zero_le _, rfl⟩
      · rintro zm zs ⟨k, rfl, hL2_0, rfl⟩
        refine code_seq ?_
        refine code_seq ?_
        refine code_ops _ rfl ?_
        refine ol_pure rfl rfl rfl (pure_move rfl rfl) ?_
        refine ol_pure rfl rfl rfl (pure_move rfl rfl) ?_
        refine ol_pure rfl rfl rfl (pure_lenm rfl Try.underlying23 rfl) ?_
        refine ol_pure rfl rfl rfl (pure_lss rfl rfl rfl) ?_
        refine ol_nil ?_
        refine seq_pick 162 [(5, _), (14, _), (15, _), (16, _), (17, _), (42, _)] [] rfl ⟨rfl, rfl, rfl, rfl, rfl, rfl, trivial⟩ trivial ?_
        refine code_cond rfl (fun h2 => ?_) (fun h2 => ?_)
        · try simp only [decide_eq_true_eq, decide_eq_false_iff_not, Bool.not_eq_true', Bool.not_eq_false', Bool.and_eq_true, Bool.or_eq_true, Bool.and_eq_false_iff, List.length_map, Int.toNat_natCast] at h2
          refine code_skip ?_
          refine seq_pick 162 [(5, _), (14, _), (15, _), (16, _), (17, _)] [] rfl ⟨rfl, rfl, rfl, rfl, rfl, trivial⟩ trivial ?_
          refine code_seq ?_
          refine code_block ?_
          refine code_seq ?_
          refine code_seq ?_
          refine code_draw mixed (by kernel_rfl) _ rfl ?_
          refine dl_pure rfl rfl rfl (pure_move rfl rfl) ?_
          refine dl_pure rfl rfl rfl (pure_move rfl rfl) ?_
          first | refine dl_pure rfl rfl rfl (pure_indexn (f := letters) (l := [lettersP l, spoiltP (lettersP l) ati how lv]) rfl Try.underlying28 sz24 rfl rfl (by simp only [List.length_cons, List.length_nil]; omega) (fun _ => rfl)) ?_ | refine dl_pure rfl rfl rfl (pure_indexm (f := letters) (l := [lettersP l, spoiltP (lettersP l) ati how lv]) rfl Try.underlying28 sz24 rfl rfl (by simp only [List.length_cons, List.length_nil]; omega) (fun _ => rfl)) ?_
          refine dl_pure rfl rfl rfl (pure_load rfl ag24 rfl rfl) ?_
          refine dl_pure rfl rfl rfl (pure_move rfl rfl) ?_
          refine dl_pure rfl rfl rfl (pure_move rfl rfl) ?_
          first | refine dl_pure rfl rfl rfl (pure_indexn (f := ints) (l := W) rfl Try.underlying23 sz22 rfl rfl (by omega) (fun _ => rfl)) ?_ | refine dl_pure rfl rfl rfl (pure_indexm (f := ints) (l := W) rfl Try.underlying23 sz22 rfl rfl (by omega) (fun _ => rfl)) ?_
          refine dl_pick 162 [(5, _), (14, _), (15, _), (16, _), (17, _), (48, _), (51, _)] [] rfl rfl ⟨rfl, rfl, rfl, rfl, rfl, rfl, rfl, trivial⟩ ?_
          refine dl_pure rfl rfl rfl (pure_load rfl ag22 rfl rfl) ?_
          refine dl_pure rfl rfl rfl (pure_call rfl rfl rfl (csection_call (hall i).len (hall i).txt (hW.get k)) hM0) ?_
          refine dl_pure rfl rfl rfl (pure_move rfl rfl) ?_
          refine dl_pure rfl rfl rfl (pure_move rfl rfl) ?_
          first | refine dl_pure rfl rfl rfl (pure_indexn (f := letters) (l := [lettersP l, spoiltP (lettersP l) ati how lv]) rfl Try.underlying28 sz24 rfl rfl (by simp only [List.length_cons, List.length_nil]; omega) (fun _ => rfl)) ?_ | refine dl_pure rfl rfl rfl (pure_indexm (f := letters) (l := [lettersP l, spoiltP (lettersP l) ati how lv]) rfl Try.underlying28 sz24 rfl rfl (by simp only [List.length_cons, List.length_nil]; omega) (fun _ => rfl)) ?_
          refine dl_pure rfl rfl rfl (pure_load rfl ag24 rfl rfl) ?_
          refine dl_pure rfl rfl rfl (pure_move rfl rfl) ?_
          refine dl_pick 162 [(5, _), (14, _), (15, _), (16, _), (17, _), (53, _), (57, _), (58, _)] [] rfl rfl ⟨rfl, rfl, rfl, rfl, rfl, rfl, rfl, rfl, trivial⟩ ?_
          refine dl_pure rfl rfl rfl (pure_move rfl rfl) ?_
          first | refine dl_pure rfl rfl rfl (pure_indexn (f := ints) (l := W) rfl Try.underlying23 sz22 rfl rfl (by omega) (fun _ => rfl)) ?_ | refine dl_pure rfl rfl rfl (pure_indexm (f := ints) (l := W) rfl Try.underlying23 sz22 rfl rfl (by omega) (fun _ => rfl)) ?_
          refine dl_pure rfl rfl rfl (pure_load rfl ag22 rfl rfl) ?_
          refine dl_pure rfl rfl rfl (pure_call rfl rfl rfl (rsection_call (hall i).len (hall i).txt (hW.get k)) hM0) ?_
          refine dl_pure rfl rfl rfl (pure_to (b' := false) (pure_neq rfl rfl rfl) (by simp)) ?_
          refine dl_nil ?_
          refine seq_pick 162 [(5, _), (14, _), (15, _), (16, _), (17, _), (63, _)] [] rfl ⟨rfl, rfl, rfl, rfl, rfl, rfl, trivial⟩ trivial ?_
          refine code_cond_f rfl ?_
          refine code_skip ?_
          refine seq_pick 162 [(5, _), (14, _), (15, _), (16, _), (17, _)] [] rfl ⟨rfl, rfl, rfl, rfl, rfl, trivial⟩ trivial ?_
          refine code_seq ?_
          refine code_ops _ rfl ?_
          refine ol_pure rfl rfl rfl (pure_assign rfl rfl) ?_
          refine ol_nil ?_
          refine seq_pick 162 [(5, _), (14, _), (15, _), (16, _), (17, _), (18, _)] [] rfl ⟨rfl, rfl, rfl, rfl, rfl, rfl, trivial⟩ trivial ?_
          refine code_block ?_
          refine code_loopM (fun zm zs => ∃ j : Nat, zm = W.length - j ∧ (j ≤ W.length) ∧ zs = ⟨162, [(5, .v .mx (int lv)), (14, .v .pl (.sl ([lettersP l, spoiltP (lettersP l) ati how lv].map letters))), (15, .v .pl (intss W)), (16, .v .pl (int i)), (17, .v .pl (int k)), (18, .v .pl (int j))], []⟩) (loop_init (n := 162) (l := [(5, _), (14, _), (15, _), (16, _), (17, _), (18, _)]) (o' := []) rfl ⟨rfl, rfl, rfl, rfl, rfl, rfl, trivial⟩ trivial ?_) ?_
          · exact ⟨_, 0, rfl, Nat.zero_le _, rfl⟩
          · rintro zm zs ⟨j, rfl, hL3_0, rfl⟩
            refine code_seq ?_
            refine code_seq ?_
            refine code_ops _ rfl ?_
            refine ol_pure rfl rfl rfl (pure_move rfl rfl) ?_
            refine ol_pure rfl rfl rfl (pure_move rfl rfl) ?_
            refine ol_pure rfl rfl rfl (pure_lenm rfl Try.underlying23 rfl) ?_
            refine ol_pure rfl rfl rfl (pure_lss rfl rfl rfl) ?_
            refine ol_nil ?_
            refine seq_pick 162 [(5, _), (14, _), (15, _), (16, _), (17, _), (18, _), (67, _)] [] rfl ⟨rfl, rfl, rfl, rfl, rfl, rfl, rfl, trivial⟩ trivial ?_
            refine code_cond rfl (fun h3 => ?_) (fun h3 => ?_)
            · try simp only [decide_eq_true_eq, decide_eq_false_iff_not, Bool.not_eq_true', Bool.not_eq_false', Bool.and_eq_true, Bool.or_eq_true, Bool.and_eq_false_iff, List.length_map, Int.toNat_natCast] at h3
              refine code_skip ?_
              refine seq_pick 162 [(5, _), (14, _), (15, _), (16, _), (17, _), (18, _)] [] rfl ⟨rfl, rfl, rfl, rfl, rfl, rfl, trivial⟩ trivial ?_
              refine code_seq ?_
              refine code_block ?_
              refine code_seq ?_
              refine code_seq ?_
              refine code_draw mixed (by kernel_rfl) _ rfl ?_
              refine dl_pure rfl rfl rfl (pure_move rfl rfl) ?_
              refine dl_pure rfl rfl rfl (pure_move rfl rfl) ?_
              first | refine dl_pure rfl rfl rfl (pure_indexn (f := letters) (l := [lettersP l, spoiltP (lettersP l) ati how lv]) rfl Try.underlying28 sz24 rfl rfl (by simp only [List.length_cons, List.length_nil]; omega) (fun _ => rfl)) ?_ | refine dl_pure rfl rfl rfl (pure_indexm (f := letters) (l := [lettersP l, spoiltP (lettersP l) ati how lv]) rfl Try.underlying28 sz24 rfl rfl (by simp only [List.length_cons, List.length_nil]; omega) (fun _ => rfl)) ?_
              refine dl_pure rfl rfl rfl (pure_load rfl ag24 rfl rfl) ?_
              refine dl_pure rfl rfl rfl (pure_move rfl rfl) ?_
              refine dl_pure rfl rfl rfl (pure_move rfl rfl) ?_
              first | refine dl_pure rfl rfl rfl (pure_indexn (f := ints) (l := W) rfl Try.underlying23 sz22 rfl rfl (by omega) (fun _ => rfl)) ?_ | refine dl_pure rfl rfl rfl (pure_indexm (f := ints) (l := W) rfl Try.underlying23 sz22 rfl rfl (by omega) (fun _ => rfl)) ?_
              refine dl_pick 162 [(5, _), (14, _), (15, _), (16, _), (17, _), (18, _), (73, _), (76, _)] [] rfl rfl ⟨rfl, rfl, rfl, rfl, rfl, rfl, rfl, rfl, trivial⟩ ?_
              refine dl_pure rfl rfl rfl (pure_load rfl ag22 rfl rfl) ?_
              refine dl_pure rfl rfl rfl (pure_move rfl rfl) ?_
              refine dl_pure rfl rfl rfl (pure_move rfl rfl) ?_
              first | refine dl_pure rfl rfl rfl (pure_indexn (f := ints) (l := W) rfl Try.underlying23 sz22 rfl rfl (by omega) (fun _ => rfl)) ?_ | refine dl_pure rfl rfl rfl (pure_indexm (f := ints) (l := W) rfl Try.underlying23 sz22 rfl rfl (by omega) (fun _ => rfl)) ?_
              refine dl_pure rfl rfl rfl (pure_load rfl ag22 rfl rfl) ?_
              refine dl_pure rfl rfl rfl (pure_call rfl rfl rfl (ccompare_call (hall i).len (hall i).txt (hW.get k) (hW.get j)) hM0) ?_
              refine dl_pure rfl rfl rfl (pure_move rfl rfl) ?_
              refine dl_pick 162 [(5, _), (14, _), (15, _), (16, _), (17, _), (18, _), (82, _), (83, _)] [] rfl rfl ⟨rfl, rfl, rfl, rfl, rfl, rfl, rfl, rfl, trivial⟩ ?_
              refine dl_pure rfl rfl rfl (pure_move rfl rfl) ?_
              first | refine dl_pure rfl rfl rfl (pure_indexn (f := letters) (l := [lettersP l, spoiltP (lettersP l) ati how lv]) rfl Try.underlying28 sz24 rfl rfl (by simp only [List.length_cons, List.length_nil]; omega) (fun _ => rfl)) ?_ | refine dl_pure rfl rfl rfl (pure_indexm (f := letters) (l := [lettersP l, spoiltP (lettersP l) ati how lv]) rfl Try.underlying28 sz24 rfl rfl (by simp only [List.length_cons, List.length_nil]; omega) (fun _ => rfl)) ?_
              refine dl_pure rfl rfl rfl (pure_load rfl ag24 rfl rfl) ?_
              refine dl_pure rfl rfl rfl (pure_move rfl rfl) ?_
              refine dl_pure rfl rfl rfl (pure_move rfl rfl) ?_
              first | refine dl_pure rfl rfl rfl (pure_indexn (f := ints) (l := W) rfl Try.underlying23 sz22 rfl rfl (by omega) (fun _ => rfl)) ?_ | refine dl_pure rfl rfl rfl (pure_indexm (f := ints) (l := W) rfl Try.underlying23 sz22 rfl rfl (by omega) (fun _ => rfl)) ?_
              refine dl_pure rfl rfl rfl (pure_load rfl ag22 rfl rfl) ?_
              refine dl_pick 162 [(5, _), (14, _), (15, _), (16, _), (17, _), (18, _), (82, _), (86, _), (90, _)] [] rfl rfl ⟨rfl, rfl, rfl, rfl, rfl, rfl, rfl, rfl, rfl, trivial⟩ ?_
              refine dl_pure rfl rfl rfl (pure_move rfl rfl) ?_
              refine dl_pure rfl rfl rfl (pure_move rfl rfl) ?_
              first | refine dl_pure rfl rfl rfl (pure_indexn (f := ints) (l := W) rfl Try.underlying23 sz22 rfl rfl (by omega) (fun _ => rfl)) ?_ | refine dl_pure rfl rfl rfl (pure_indexm (f := ints) (l := W) rfl Try.underlying23 sz22 rfl rfl (by omega) (fun _ => rfl)) ?_
              refine dl_pure rfl rfl rfl (pure_load rfl ag22 rfl rfl) ?_
              refine dl_pure rfl rfl rfl (pure_call rfl rfl rfl (rcompare_call (hall i).len (hall i).txt (hW.get k) (hW.get j)) hM0) ?_
              refine dl_pure rfl rfl rfl (pure_to (b' := false) (pure_neq rfl rfl rfl) (by rw [cmp_same]; simp)) ?_
              refine dl_pure rfl rfl rfl (pure_move rfl rfl) ?_
              refine dl_pick 162 [(5, _), (14, _), (15, _), (16, _), (17, _), (18, _), (97, _)] [] rfl rfl ⟨rfl, rfl, rfl, rfl, rfl, rfl, rfl, trivial⟩ ?_
              refine dl_pure_g rfl rfl rfl rfl rfl (pure_move rfl rfl) ?_
              refine dl_pure_g rfl rfl rfl rfl rfl (pure_move rfl rfl) ?_
              first | refine dl_pure_g rfl rfl rfl rfl rfl (pure_indexn (f := letters) (l := [lettersP l, spoiltP (lettersP l) ati how lv]) rfl Try.underlying28 sz24 rfl rfl (by simp only [List.length_cons, List.length_nil]; omega) (fun _ => rfl)) ?_ | refine dl_pure_g rfl rfl rfl rfl rfl (pure_indexm (f := letters) (l := [lettersP l, spoiltP (lettersP l) ati how lv]) rfl Try.underlying28 sz24 rfl rfl (by simp only [List.length_cons, List.length_nil]; omega) (fun _ => rfl)) ?_
              refine dl_pure_g rfl rfl rfl rfl rfl (pure_load rfl ag24 rfl rfl) ?_
              refine dl_pure_g rfl rfl rfl rfl rfl (pure_move rfl rfl) ?_
              refine dl_pure_g rfl rfl rfl rfl rfl (pure_move rfl rfl) ?_
              first | refine dl_pure_g rfl rfl rfl rfl rfl (pure_indexn (f := ints) (l := W) rfl Try.underlying23 sz22 rfl rfl (by omega) (fun _ => rfl)) ?_ | refine dl_pure_g rfl rfl rfl rfl rfl (pure_indexm (f := ints) (l := W) rfl Try.underlying23 sz22 rfl rfl (by omega) (fun _ => rfl)) ?_
              refine dl_pick 162 [(5, _), (14, _), (15, _), (16, _), (17, _), (18, _), (97, _), (101, _), (104, _)] [] rfl rfl ⟨rfl, rfl, rfl, rfl, rfl, rfl, rfl, rfl, rfl, trivial⟩ ?_
              refine dl_pure_g rfl rfl rfl rfl rfl (pure_load rfl ag22 rfl rfl) ?_
              refine dl_pure_g rfl rfl rfl rfl rfl (pure_move rfl rfl) ?_
              refine dl_pure_g rfl rfl rfl rfl rfl (pure_move rfl rfl) ?_
              first | refine dl_pure_g rfl rfl rfl rfl rfl (pure_indexn (f := ints) (l := W) rfl Try.underlying23 sz22 rfl rfl (by omega) (fun _ => rfl)) ?_ | refine dl_pure_g rfl rfl rfl rfl rfl (pure_indexm (f := ints) (l := W) rfl Try.underlying23 sz22 rfl rfl (by omega) (fun _ => rfl)) ?_
              refine dl_pure_g rfl rfl rfl rfl rfl (pure_load rfl ag22 rfl rfl) ?_
              refine dl_pure_g rfl rfl rfl rfl rfl (pure_move rfl rfl) ?_
              refine dl_pure_g rfl rfl rfl rfl rfl (pure_call rfl rfl rfl (csame_call (hall i).len (hall i).txt (hW.get k) (hW.get j)) hM0) ?_
              refine dl_pick 162 [(5, _), (14, _), (15, _), (16, _), (17, _), (18, _), (97, _), (111, _)] [] rfl rfl ⟨rfl, rfl, rfl, rfl, rfl, rfl, rfl, rfl, trivial⟩ ?_
              refine dl_pure_g rfl rfl rfl rfl rfl (pure_move rfl rfl) ?_
              refine dl_pure_g rfl rfl rfl rfl rfl (pure_move rfl rfl) ?_
              first | refine dl_pure_g rfl rfl rfl rfl rfl (pure_indexn (f := letters) (l := [lettersP l, spoiltP (lettersP l) ati how lv]) rfl Try.underlying28 sz24 rfl rfl (by simp only [List.length_cons, List.length_nil]; omega) (fun _ => rfl)) ?_ | refine dl_pure_g rfl rfl rfl rfl rfl (pure_indexm (f := letters) (l := [lettersP l, spoiltP (lettersP l) ati how lv]) rfl Try.underlying28 sz24 rfl rfl (by simp only [List.length_cons, List.length_nil]; omega) (fun _ => rfl)) ?_
              refine dl_pure_g rfl rfl rfl rfl rfl (pure_load rfl ag24 rfl rfl) ?_
              refine dl_pure_g rfl rfl rfl rfl rfl (pure_move rfl rfl) ?_
              refine dl_pure_g rfl rfl rfl rfl rfl (pure_move rfl rfl) ?_
              first | refine dl_pure_g rfl rfl rfl rfl rfl (pure_indexn (f := ints) (l := W) rfl Try.underlying23 sz22 rfl rfl (by omega) (fun _ => rfl)) ?_ | refine dl_pure_g rfl rfl rfl rfl rfl (pure_indexm (f := ints) (l := W) rfl Try.underlying23 sz22 rfl rfl (by omega) (fun _ => rfl)) ?_
              refine dl_pick 162 [(5, _), (14, _), (15, _), (16, _), (17, _), (18, _), (97, _), (111, _), (115, _), (118, _)] [] rfl rfl ⟨rfl, rfl, rfl, rfl, rfl, rfl, rfl, rfl, rfl, rfl, trivial⟩ ?_
              refine dl_pure_g rfl rfl rfl rfl rfl (pure_load rfl ag22 rfl rfl) ?_
              refine dl_pure_g rfl rfl rfl rfl rfl (pure_move rfl rfl) ?_
              refine dl_pure_g rfl rfl rfl rfl rfl (pure_move rfl rfl) ?_
              first | refine dl_pure_g rfl rfl rfl rfl rfl (pure_indexn (f := ints) (l := W) rfl Try.underlying23 sz22 rfl rfl (by omega) (fun _ => rfl)) ?_ | refine dl_pure_g rfl rfl rfl rfl rfl (pure_indexm (f := ints) (l := W) rfl Try.underlying23 sz22 rfl rfl (by omega) (fun _ => rfl)) ?_
              refine dl_pure_g rfl rfl rfl rfl rfl (pure_load rfl ag22 rfl rfl) ?_
              refine dl_pure_g rfl rfl rfl rfl rfl (pure_move rfl rfl) ?_
              refine dl_pure_g rfl rfl rfl rfl rfl (pure_call rfl rfl rfl (rsame_call (hall i).len (hall i).txt (hW.get k) (hW.get j)) hM0) ?_
              refine dl_pure_g rfl rfl rfl rfl rfl (pure_to (b' := false) (pure_bne Try.underlying4 rfl rfl rfl) (by rw [same_same]; simp)) ?_
              refine dl_pure rfl rfl rfl (pure_pick_f rfl rfl rfl rfl) ?_
              refine dl_nil ?_
              refine seq_pick 162 [(5, _), (14, _), (15, _), (16, _), (17, _), (18, _), (127, _)] [] rfl ⟨rfl, rfl, rfl, rfl, rfl, rfl, rfl, trivial⟩ trivial ?_
              refine code_cond_f rfl ?_
              refine code_skip ?_
              refine seq_pick 162 [(5, _), (14, _), (15, _), (16, _), (17, _), (18, _)] [] rfl ⟨rfl, rfl, rfl, rfl, rfl, rfl, trivial⟩ trivial ?_
              refine code_seq ?_
              refine code_ops _ rfl ?_
              refine ol_pure rfl rfl rfl (pure_assign rfl rfl) ?_
              refine ol_nil ?_
              refine seq_pick 162 [(5, _), (14, _), (15, _), (16, _), (17, _), (18, _), (19, _)] [] rfl ⟨rfl, rfl, rfl, rfl, rfl, rfl, rfl, trivial⟩ trivial ?_
              refine code_block ?_
              refine code_loopM (fun zm zs => ∃ n : Nat, zm = 6 - n ∧ (n ≤ 6) ∧ zs = ⟨162, [(5, .v .mx (int lv)), (14, .v .pl (.sl ([lettersP l, spoiltP (lettersP l) ati how lv].map letters))), (15, .v .pl (intss W)), (16, .v .pl (int i)), (17, .v .pl (int k)), (18, .v .pl (int j)), (19, .v .pl (int n))], []⟩) (loop_init (n := 162) (l := [(5, _), (14, _), (15, _), (16, _), (17, _), (18, _), (19, _)]) (o' := []) rfl ⟨rfl, rfl, rfl, rfl, rfl, rfl, rfl, trivial⟩ trivial ?_) ?_
              · exact ⟨_, 0, rfl, Nat.zero_le _, rfl⟩
              · rintro zm zs ⟨n, rfl, hL4_0, rfl⟩
                refine code_seq ?_
                refine code_seq ?_
                refine code_ops _ rfl ?_
                refine ol_pure rfl rfl rfl (pure_move rfl rfl) ?_
                refine ol_pure rfl rfl rfl (pure_leq rfl rfl rfl) ?_
                refine ol_nil ?_
                refine seq_pick 162 [(5, _), (14, _), (15, _), (16, _), (17, _), (18, _), (19, _), (129, _)] [] rfl ⟨rfl, rfl, rfl, rfl, rfl, rfl, rfl, rfl, trivial⟩ trivial ?_
                refine code_cond rfl (fun h4 => ?_) (fun h4 => ?_)
                · try simp only [decide_eq_true_eq, decide_eq_false_iff_not, Bool.not_eq_true', Bool.not_eq_false', Bool.and_eq_true, Bool.or_eq_true, Bool.and_eq_false_iff, List.length_map, Int.toNat_natCast] at h4
                  refine code_skip ?_
                  refine seq_pick 162 [(5, _), (14, _), (15, _), (16, _), (17, _), (18, _), (19, _)] [] rfl ⟨rfl, rfl, rfl, rfl, rfl, rfl, rfl, trivial⟩ trivial ?_
                  refine code_seq ?_
                  refine code_block ?_
                  refine code_seq ?_
                  refine code_draw mixed (by kernel_rfl) _ rfl ?_
                  refine dl_pure rfl rfl rfl (pure_move rfl rfl) ?_
                  refine dl_pure rfl rfl rfl (pure_move rfl rfl) ?_
                  first | refine dl_pure rfl rfl rfl (pure_indexn (f := letters) (l := [lettersP l, spoiltP (lettersP l) ati how lv]) rfl Try.underlying28 sz24 rfl rfl (by simp only [List.length_cons, List.length_nil]; omega) (fun _ => rfl)) ?_ | refine dl_pure rfl rfl rfl (pure_indexm (f := letters) (l := [lettersP l, spoiltP (lettersP l) ati how lv]) rfl Try.underlying28 sz24 rfl rfl (by simp only [List.length_cons, List.length_nil]; omega) (fun _ => rfl)) ?_
                  refine dl_pure rfl rfl rfl (pure_load rfl ag24 rfl rfl) ?_
                  refine dl_pure rfl rfl rfl (pure_move rfl rfl) ?_
                  refine dl_pure rfl rfl rfl (pure_move rfl rfl) ?_
                  first | refine dl_pure rfl rfl rfl (pure_indexn (f := ints) (l := W) rfl Try.underlying23 sz22 rfl rfl (by omega) (fun _ => rfl)) ?_ | refine dl_pure rfl rfl rfl (pure_indexm (f := ints) (l := W) rfl Try.underlying23 sz22 rfl rfl (by omega) (fun _ => rfl)) ?_
                  refine dl_pick 162 [(5, _), (14, _), (15, _), (16, _), (17, _), (18, _), (19, _), (135, _), (138, _)] [] rfl rfl ⟨rfl, rfl, rfl, rfl, rfl, rfl, rfl, rfl, rfl, trivial⟩ ?_
                  refine dl_pure rfl rfl rfl (pure_load rfl ag22 rfl rfl) ?_
                  refine dl_pure rfl rfl rfl (pure_move rfl rfl) ?_
                  refine dl_pure rfl rfl rfl (pure_move rfl rfl) ?_
                  first | refine dl_pure rfl rfl rfl (pure_indexn (f := ints) (l := W) rfl Try.underlying23 sz22 rfl rfl (by omega) (fun _ => rfl)) ?_ | refine dl_pure rfl rfl rfl (pure_indexm (f := ints) (l := W) rfl Try.underlying23 sz22 rfl rfl (by omega) (fun _ => rfl)) ?_
                  refine dl_pure rfl rfl rfl (pure_load rfl ag22 rfl rfl) ?_
                  refine dl_pure rfl rfl rfl (pure_move rfl rfl) ?_
                  refine dl_pure rfl rfl rfl (pure_call rfl rfl rfl (csame_call (hall i).len (hall i).txt (hW.get k) (hW.get j)) hM0) ?_
                  refine dl_pick 162 [(5, _), (14, _), (15, _), (16, _), (17, _), (18, _), (19, _), (145, _)] [] rfl rfl ⟨rfl, rfl, rfl, rfl, rfl, rfl, rfl, rfl, trivial⟩ ?_
                  refine dl_pure rfl rfl rfl (pure_move rfl rfl) ?_
                  refine dl_pure rfl rfl rfl (pure_move rfl rfl) ?_
                  first | refine dl_pure rfl rfl rfl (pure_indexn (f := letters) (l := [lettersP l, spoiltP (lettersP l) ati how lv]) rfl Try.underlying28 sz24 rfl rfl (by simp only [List.length_cons, List.length_nil]; omega) (fun _ => rfl)) ?_ | refine dl_pure rfl rfl rfl (pure_indexm (f := letters) (l := [lettersP l, spoiltP (lettersP l) ati how lv]) rfl Try.underlying28 sz24 rfl rfl (by simp only [List.length_cons, List.length_nil]; omega) (fun _ => rfl)) ?_
                  refine dl_pure rfl rfl rfl (pure_load rfl ag24 rfl rfl) ?_
                  refine dl_pure rfl rfl rfl (pure_move rfl rfl) ?_
                  refine dl_pure rfl rfl rfl (pure_move rfl rfl) ?_
                  first | refine dl_pure rfl rfl rfl (pure_indexn (f := ints) (l := W) rfl Try.underlying23 sz22 rfl rfl (by omega) (fun _ => rfl)) ?_ | refine dl_pure rfl rfl rfl (pure_indexm (f := ints) (l := W) rfl Try.underlying23 sz22 rfl rfl (by omega) (fun _ => rfl)) ?_
                  refine dl_pick 162 [(5, _), (14, _), (15, _), (16, _), (17, _), (18, _), (19, _), (145, _), (149, _), (152, _)] [] rfl rfl ⟨rfl, rfl, rfl, rfl, rfl, rfl, rfl, rfl, rfl, rfl, trivial⟩ ?_
                  refine dl_pure rfl rfl rfl (pure_load rfl ag22 rfl rfl) ?_
                  refine dl_pure rfl rfl rfl (pure_move rfl rfl) ?_
                  refine dl_pure rfl rfl rfl (pure_move rfl rfl) ?_
                  first | refine dl_pure rfl rfl rfl (pure_indexn (f := ints) (l := W) rfl Try.underlying23 sz22 rfl rfl (by omega) (fun _ => rfl)) ?_ | refine dl_pure rfl rfl rfl (pure_indexm (f := ints) (l := W) rfl Try.underlying23 sz22 rfl rfl (by omega) (fun _ => rfl)) ?_
                  refine dl_pure rfl rfl rfl (pure_load rfl ag22 rfl rfl) ?_
                  refine dl_pure rfl rfl rfl (pure_move rfl rfl) ?_
                  refine dl_pure rfl rfl rfl (pure_call rfl rfl rfl (rsame_call (hall i).len (hall i).txt (hW.get k) (hW.get j)) hM0) ?_
                  refine dl_pure rfl rfl rfl (pure_to (b' := false) (pure_bne Try.underlying4 rfl rfl rfl) (by rw [same_same]; simp)) ?_
                  refine dl_nil ?_
                  refine seq_pick 162 [(5, _), (14, _), (15, _), (16, _), (17, _), (18, _), (19, _), (160, _)] [] rfl ⟨rfl, rfl, rfl, rfl, rfl, rfl, rfl, rfl, trivial⟩ trivial ?_
                  refine code_cond_f rfl ?_
                  refine code_skip ?_
                  refine blockQ_normal ?_
                  refine seq_pick 162 [(5, _), (14, _), (15, _), (16, _), (17, _), (18, _), (19, _)] [] rfl ⟨rfl, rfl, rfl, rfl, rfl, rfl, rfl, trivial⟩ trivial ?_
                  refine code_ops _ rfl ?_
                  refine ol_pure rfl rfl rfl (pure_move rfl rfl) ?_
                  refine ol_pure rfl rfl rfl (pure_addi rfl rfl rfl (by omega)) ?_
                  refine ol_pure rfl rfl rfl (pure_assign rfl rfl) ?_
                  refine ol_nil ?_
                  refine loop_next (n := 162) (l := [(5, _), (14, _), (15, _), (16, _), (17, _), (18, _), (19, _)]) (o' := []) rfl ⟨rfl, rfl, rfl, rfl, rfl, rfl, rfl, trivial⟩ trivial ?_   -- loop 4 end 1
                  exact ⟨_, ⟨n + 1, rfl, by omega, rfl⟩, by omega⟩
                · try simp only [decide_eq_true_eq, decide_eq_false_iff_not, Bool.not_eq_true', Bool.not_eq_false', Bool.and_eq_true, Bool.or_eq_true, Bool.and_eq_false_iff, List.length_map, Int.toNat_natCast] at h4
                  refine code_exit ?_
                  refine seqQ_exit ?_
                  refine loopM_exit ?_
                  refine blockQ_same ?_
                  refine blockQ_normal ?_
                  refine seq_pick 162 [(5, _), (14, _), (15, _), (16, _), (17, _), (18, _)] [] rfl ⟨rfl, rfl, rfl, rfl, rfl, rfl, trivial⟩ trivial ?_
                  refine code_ops _ rfl ?_
                  refine ol_pure rfl rfl rfl (pure_move rfl rfl) ?_
                  refine ol_pure rfl rfl rfl (pure_addi rfl rfl rfl (by omega)) ?_
                  refine ol_pure rfl rfl rfl (pure_assign rfl rfl) ?_
                  refine ol_nil ?_
                  refine loop_next (n := 162) (l := [(5, _), (14, _), (15, _), (16, _), (17, _), (18, _)]) (o' := []) rfl ⟨rfl, rfl, rfl, rfl, rfl, rfl, trivial⟩ trivial ?_   -- loop 3 end 1
                  exact ⟨_, ⟨j + 1, rfl, by omega, rfl⟩, by omega⟩
            · try simp only [decide_eq_true_eq, decide_eq_false_iff_not, Bool.not_eq_true', Bool.not_eq_false', Bool.and_eq_true, Bool.or_eq_true, Bool.and_eq_false_iff, List.length_map, Int.toNat_natCast] at h3
              refine code_exit ?_
              refine seqQ_exit ?_
              refine loopM_exit ?_
              refine blockQ_same ?_
              refine blockQ_normal ?_
              refine seq_pick 162 [(5, _), (14, _), (15, _), (16, _), (17, _)] [] rfl ⟨rfl, rfl, rfl, rfl, rfl, trivial⟩ trivial ?_
              refine code_ops _ rfl ?_
              refine ol_pure rfl rfl rfl (pure_move rfl rfl) ?_
              refine ol_pure rfl rfl rfl (pure_addi rfl rfl rfl (by omega)) ?_
              refine ol_pure rfl rfl rfl (pure_assign rfl rfl) ?_
              refine ol_nil ?_
              refine loop_next (n := 162) (l := [(5, _), (14, _), (15, _), (16, _), (17, _)]) (o' := []) rfl ⟨rfl, rfl, rfl, rfl, rfl, trivial⟩ trivial ?_   -- loop 2 end 1
              exact ⟨_, ⟨k + 1, rfl, by omega, rfl⟩, by omega⟩
        · try simp only [decide_eq_true_eq, decide_eq_false_iff_not, Bool.not_eq_true', Bool.not_eq_false', Bool.and_eq_true, Bool.or_eq_true, Bool.and_eq_false_iff, List.length_map, Int.toNat_natCast] at h2
          refine code_exit ?_
          refine seqQ_exit ?_
          refine loopM_exit ?_
          refine blockQ_same ?_
          refine blockQ_normal ?_
          refine seq_pick 162 [(5, _), (14, _), (15, _), (16, _)] [] rfl ⟨rfl, rfl, rfl, rfl, trivial⟩ trivial ?_
          refine code_ops _ rfl ?_
          refine ol_pure rfl rfl rfl (pure_move rfl rfl) ?_
          refine ol_pure rfl rfl rfl (pure_addi rfl rfl rfl (by omega)) ?_
          refine ol_pure rfl rfl rfl (pure_assign rfl rfl) ?_
          refine ol_nil ?_
          refine loop_next (n := 162) (l := [(5, _), (14, _), (15, _), (16, _)]) (o' := []) rfl ⟨rfl, rfl, rfl, rfl, trivial⟩ trivial ?_   -- loop 1 end 1
          exact ⟨_, ⟨i + 1, rfl, by omega, rfl⟩, by omega⟩
    · try simp only [decide_eq_true_eq, decide_eq_false_iff_not, Bool.not_eq_true', Bool.not_eq_false', Bool.and_eq_true, Bool.or_eq_true, Bool.and_eq_false_iff, List.length_map, Int.toNat_natCast] at h1
      refine code_exit ?_
      refine seqQ_exit ?_
      refine loopM_exit ?_
      refine blockQ_same ?_
      refine seq_pick 162 [] [] rfl trivial trivial ?_
      refine code_seq ?_
      refine code_ops _ rfl ?_
      refine ol_pure rfl rfl rfl (pure_call rfl rfl rfl (lives_call) hM0) ?_
      refine ol_pure rfl rfl rfl (pure_assign rfl rfl) ?_
      refine ol_nil ?_
      refine seq_pick 162 [(12, _)] [] rfl ⟨rfl, trivial⟩ trivial ?_
      refine code_ret ?_
      refine end_ret rfl ?_   -- end 1
      rfl
/-! The statement CollateComparesSaid. -/
namespace collateCompares
open Go.ChangeShapes Go.WideShapes Go.ChangeAt Go.RowKit Go.Am
theorem own : ownKnob Try.prog.godebug = none := by kernel_rfl
set_option maxRecDepth 100000 in
theorem lifted (os : Os) (started : os.Started) (H : Type) (enc : TypeId × Value → H) :
    ReturnsInHanded {} Try.checked os 4 .any (Rows.collateComparesSpec.pre6 enc Try.prog Try.f4 Rows.collateComparesRow.domain false) (Rows.collateComparesSpec.post enc Try.prog Try.f4 false true false false) := by
  refine returnsInHanded_of_change (C := Try.checked) own started (by kernel_rfl) Try.func4
    (ChangeSpec.witness6 (enc := enc) (C := Try.checked) false ⟨#[], #[.slice none 0 0, .slice none 0 0, .slice none 0 0, .int .i64 0, .int .i64 0, .int .i64 0], []⟩ 8 (by kernel_rfl) (by kernel_rfl) (by kernel_rfl) (by kernel_rfl)) ?_
  intro W base args ds gs before hval0 hW hcnd _
  have hval : ∀ (j : Nat) t v, Try.f4.params[j]? = some t → args[j]? = some v → Value.okWide Try.prog W .any base t v := hval0
  have hW' := hW
  obtain ⟨p, q, hA0, hV, rfl, hfz, hnd⟩ := hW
  have hA : DataW.TrodAll enc Try.prog W 0 (fun _ => true) true Try.f4.params.toList args.toList ds p := hA0
  rw [Try.params4] at hA hval
  obtain ⟨v0, vs0, d0, ds0, p0, q0, hargs, rfl, rfl, h0, r0⟩ := trodAll_cons hA
  obtain ⟨v1, vs1, d1, ds1, p1, q1, rfl, rfl, rfl, h1, r1⟩ := trodAll_cons r0
  obtain ⟨v2, vs2, d2, ds2, p2, q2, rfl, rfl, rfl, h2, r2⟩ := trodAll_cons r1
  obtain ⟨v3, vs3, d3, ds3, p3, q3, rfl, rfl, rfl, h3, r3⟩ := trodAll_cons r2
  obtain ⟨v4, vs4, d4, ds4, p4, q4, rfl, rfl, rfl, h4, r4⟩ := trodAll_cons r3
  obtain ⟨v5, vs5, d5, ds5, p5, q5, rfl, rfl, rfl, h5, r5⟩ := trodAll_cons r4
  obtain ⟨rfl, rfl, rfl⟩ := trodAll_nil r5
  obtain rfl : args = #[v0, v1, v2, v3, v4, v5] := by cases args; simp_all
  obtain ⟨x0, y0, z0, e0⟩ := open_intsA Try.underlying22 Try.underlying3 sz3 (hval 0 22 v0 rfl rfl) h0
  obtain ⟨x1, y1, z1, e1⟩ := open_intsA Try.underlying22 Try.underlying3 sz3 (hval 1 22 v1 rfl rfl) h1
  obtain ⟨x2, y2, z2, e2⟩ := open_intssA Try.underlying23 Try.underlying22 Try.underlying3 sz22 sz3 (hval 2 23 v2 rfl rfl) h2
  obtain ⟨x3, y3, e3⟩ := open_intA Try.underlying3 (hval 3 3 v3 rfl rfl) h3
  obtain ⟨x4, y4, e4⟩ := open_intA Try.underlying3 (hval 4 3 v4 rfl rfl) h4
  obtain ⟨x5, y5, e5⟩ := open_intA Try.underlying3 (hval 5 3 v5 rfl rfl) h5
  have hcall := (compares_law z0 y0 z1 z2 (fun y hy => (y2 y hy).2) y3 y4 y5).use (w := W) (vs := [v0, v1, v2, v3, v4, v5]) ⟨e0, e1, e2, e3, e4, e5, trivial⟩
  exact law_post (tb := 4) (by kernel_rfl) (by kernel_rfl) (by kernel_rfl) Try.underlying4 rfl rfl hW' hcall
theorem over : Rows.collateComparesRow.holds Try.pinned (OpenSpec.ofChange Rows.collateComparesSpec) :=
  OpenClaim.holds_of_wide 4 Try.f4 rfl rfl rfl rfl rfl rfl rfl ⟨rfl, rfl, rfl, rfl, rfl⟩ rfl rfl rfl rfl rfl (by kernel_rfl) Try.func4 (by kernel_rfl)
    (of_decide_eq_true (by kernel_rfl)) (by unfold Func.isWrapper; first | (rw [if_pos (by decide +kernel)]; kernel_rfl) | (rw [if_neg (by decide +kernel)]; exact ⟨rfl, rfl⟩))
    (fun os started H enc _ => lifted os started H enc)
end collateCompares
theorem collateCompares_holds : Rows.CollateComparesSaid := collateCompares.over
end Go.Proofs.Ytcimmcjnkphagaa
