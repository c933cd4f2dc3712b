/-
  The law CollateOrder holds: for every input it returns true, and its arguments read as before.
-/
import Derived.Test.YtcimmcjnkphagaaCr
import Derived.Test.YtcimmcjnkphagaaCl
import Derived.Test.YtcimmcjnkphagaaCm
import Derived.Test.YtcimmcjnkphagaaCb
import Derived.Test.YtcimmcjnkphagaaPo
namespace Go.Proofs.Ytcimmcjnkphagaa
open Go.Am Go.Wb
set_option linter.unusedVariables false
set_option linter.unusedSimpArgs false
theorem fn7 : Fn1 Try.prog 7 Try.f7.ntmps 6 (Try.f7.body.getD .skip) := ⟨Try.f7, Try.func7, rfl, rfl, rfl, by kernel_rfl⟩
set_option maxRecDepth 100000 in
set_option maxHeartbeats 8000000 in
theorem order_law {l m : List Int} {words : List (List Int)} (hl : l.length ≤ 9223372036854775807) (hl64 : I64s l) (hm : m.length ≤ 9223372036854775807) (hw : words.length ≤ 9223372036854775807) (hww : bigL words) :
    CallF Try.prog 7 [ints l, ints m, intss words] (.p (bool true)) := by
  have hA := lettersP_ok l
  have hA0 := lettersP_len l
  obtain ⟨W, hWe⟩ : ∃ W, W = wordsP (lettersP l) m 5 ++ rawP words := ⟨_, rfl⟩
  have hW : shortW W := by rw [hWe]; exact words_short _ _ _ (by decide) _
  have hW1 := hW.1
  have hW2 : W.length ≤ 1099511627776 := by omega
  refine callF_of_code fn7 (Nat.le_of_ble_eq_true rfl) fun w0 M0 hM0 => ?_
  refine code_seq ?_
  refine code_ops _ rfl ?_
  refine ol_pure rfl rfl rfl (pure_assign rfl rfl) ?_
  refine ol_nil ?_
  refine seq_pick 119 [(0, _), (1, _), (2, _)] [] rfl ⟨rfl, rfl, rfl, trivial⟩ trivial ?_
  refine code_seq ?_
  refine code_ops _ rfl ?_
  refine ol_pure rfl rfl rfl (pure_move rfl rfl) ?_
  refine ol_pure rfl rfl rfl (pure_call rfl rfl rfl (letters_call hl hl64) hM0) ?_
  refine ol_pure rfl rfl rfl (pure_assign rfl rfl) ?_
  refine ol_nil ?_
  refine seq_pick 119 [(1, _), (2, _), (7, _)] [] rfl ⟨rfl, rfl, rfl, trivial⟩ trivial ?_
  refine code_seq ?_
  refine code_ops _ rfl ?_
  refine ol_pure rfl rfl rfl (pure_move rfl rfl) ?_
  refine ol_pure rfl rfl rfl (pure_move rfl rfl) ?_
  refine ol_step rfl (step_call_own rfl rfl rfl rfl rfl rfl (words_call hA.len (by omega) hm (by decide)) hM0) ?_
  refine ol_pure rfl rfl rfl (pure_move rfl rfl) ?_
  refine ol_pure rfl rfl rfl (pure_call rfl rfl rfl (raw_call hw hww) hM0) ?_
  refine ol_step rfl (step_append rfl rfl rfl rfl Try.underlying23 el22 rfl rfl hM0 (src_plm rfl (fun _ => rfl)) (by have h1 := hW.1; rw [hWe, List.length_append] at h1; simp only [List.length_map]; omega) (by have h1 := hW.1; rw [hWe, List.length_append] at h1; simp only [List.length_map]; omega)) ?_
  refine ol_pure rfl rfl rfl (pure_assign rfl rfl) ?_
  refine ol_nil ?_
  refine seq_pick 119 [(7, _), (8, _)] [(18, _)] rfl ⟨rfl, rfl, trivial⟩ ⟨rfl, trivial⟩ ?_
  refine code_seq ?_
  refine code_seq ?_
  refine code_frz 119 [(7, _), (8, _)] [] hM0 rfl ⟨.inl rfl, .inr ⟨_, _, rfl, rfl, rfl⟩, trivial⟩ trivial ?_
  refine code_ops _ rfl ?_
  refine ol_pure rfl rfl rfl (pure_assign rfl rfl) ?_
  refine ol_nil ?_
  refine seq_pick 119 [(7, _), (8, _), (9, _)] [] rfl ⟨rfl, rfl, rfl, trivial⟩ trivial ?_
  refine code_block ?_
  refine code_loopM (fun zm zs => ∃ i : Nat, zm = W.length - i ∧ (i ≤ W.length) ∧ zs = ⟨119, [(7, .v .pl (letters (lettersP l))), (8, .v .pl (intss W)), (9, .v .pl (int i))], []⟩) (loop_init (n := 119) (l := [(7, _), (8, _), (9, _)]) (o' := []) rfl ⟨rfl, rfl, rfl, trivial⟩ trivial ?_) ?_
  · refine ⟨_, 0, rfl, Nat.zero_le _, ?_⟩
    rw [hWe, intss, List.map_append]; rfl
  · rintro zm zs ⟨i, rfl, hL1_0, rfl⟩
    refine code_seq ?_
    refine code_seq ?_
    refine code_ops _ rfl ?_
    refine ol_pure rfl rfl rfl (pure_move rfl rfl) ?_
    refine ol_pure rfl rfl rfl (pure_move rfl rfl) ?_
    refine ol_pure rfl rfl rfl (pure_lenm rfl Try.underlying23 rfl) ?_
    refine ol_pure rfl rfl rfl (pure_lss rfl rfl rfl) ?_
    refine ol_nil ?_
    refine seq_pick 119 [(7, _), (8, _), (9, _), (25, _)] [] rfl ⟨rfl, rfl, rfl, rfl, trivial⟩ trivial ?_
    refine code_cond rfl (fun h1 => ?_) (fun h1 => ?_)
    · try simp only [decide_eq_true_eq, decide_eq_false_iff_not, Bool.not_eq_true', Bool.not_eq_false', Bool.and_eq_true, Bool.or_eq_true, Bool.and_eq_false_iff, List.length_map, Int.toNat_natCast] at h1
      refine code_skip ?_
      refine seq_pick 119 [(7, _), (8, _), (9, _)] [] rfl ⟨rfl, rfl, rfl, trivial⟩ trivial ?_
      refine code_seq ?_
      refine code_block ?_
      refine code_seq ?_
      refine code_ops _ rfl ?_
      refine ol_pure rfl rfl rfl (pure_assign rfl rfl) ?_
      refine ol_nil ?_
      refine seq_pick 119 [(7, _), (8, _), (9, _), (10, _)] [] rfl ⟨rfl, rfl, rfl, rfl, trivial⟩ trivial ?_
      refine code_block ?_
      refine code_loopM (fun zm zs => ∃ j : Nat, zm = W.length - j ∧ (j ≤ W.length) ∧ zs = ⟨119, [(7, .v .pl (letters (lettersP l))), (8, .v .pl (intss W)), (9, .v .pl (int i)), (10, .v .pl (int j))], []⟩) (loop_init (n := 119) (l := [(7, _), (8, _), (9, _), (10, _)]) (o' := []) rfl ⟨rfl, rfl, rfl, rfl, trivial⟩ trivial ?_) ?_
      · exact ⟨_, 0, rfl, Nat.zero_le _, rfl⟩
      · rintro zm zs ⟨j, rfl, hL2_0, rfl⟩
        refine code_seq ?_
        refine code_seq ?_
        refine code_ops _ rfl ?_
        refine ol_pure rfl rfl rfl (pure_move rfl rfl) ?_
        refine ol_pure rfl rfl rfl (pure_move rfl rfl) ?_
        refine ol_pure rfl rfl rfl (pure_lenm rfl Try.underlying23 rfl) ?_
        refine ol_pure rfl rfl rfl (pure_lss rfl rfl rfl) ?_
        refine ol_nil ?_
        refine seq_pick 119 [(7, _), (8, _), (9, _), (10, _), (31, _)] [] rfl ⟨rfl, rfl, rfl, rfl, rfl, trivial⟩ trivial ?_
        refine code_cond rfl (fun h2 => ?_) (fun h2 => ?_)
        · try simp only [decide_eq_true_eq, decide_eq_false_iff_not, Bool.not_eq_true', Bool.not_eq_false', Bool.and_eq_true, Bool.or_eq_true, Bool.and_eq_false_iff, List.length_map, Int.toNat_natCast] at h2
          refine code_skip ?_
          refine seq_pick 119 [(7, _), (8, _), (9, _), (10, _)] [] rfl ⟨rfl, rfl, rfl, rfl, trivial⟩ trivial ?_
          refine code_seq ?_
          refine code_block ?_
          refine code_seq ?_
          refine code_draw mixed (by kernel_rfl) _ rfl ?_
          refine dl_pure rfl rfl rfl (pure_move rfl rfl) ?_
          refine dl_pure rfl rfl rfl (pure_move rfl rfl) ?_
          refine dl_pure rfl rfl rfl (pure_move rfl rfl) ?_
          first | refine dl_pure rfl rfl rfl (pure_indexn (f := ints) (l := W) rfl Try.underlying23 sz22 rfl rfl (by omega) (fun _ => rfl)) ?_ | refine dl_pure rfl rfl rfl (pure_indexm (f := ints) (l := W) rfl Try.underlying23 sz22 rfl rfl (by omega) (fun _ => rfl)) ?_
          refine dl_pure rfl rfl rfl (pure_load rfl ag22 rfl rfl) ?_
          refine dl_pure rfl rfl rfl (pure_move rfl rfl) ?_
          refine dl_pure rfl rfl rfl (pure_move rfl rfl) ?_
          refine dl_pick 119 [(7, _), (8, _), (9, _), (10, _), (34, _), (38, _), (39, _), (40, _)] [] rfl rfl ⟨rfl, rfl, rfl, rfl, rfl, rfl, rfl, rfl, trivial⟩ ?_
          first | refine dl_pure rfl rfl rfl (pure_indexn (f := ints) (l := W) rfl Try.underlying23 sz22 rfl rfl (by omega) (fun _ => rfl)) ?_ | refine dl_pure rfl rfl rfl (pure_indexm (f := ints) (l := W) rfl Try.underlying23 sz22 rfl rfl (by omega) (fun _ => rfl)) ?_
          refine dl_pure rfl rfl rfl (pure_load rfl ag22 rfl rfl) ?_
          refine dl_pure rfl rfl rfl (pure_call rfl rfl rfl (ccompare_call hA.len hA.txt (hW.get i) (hW.get j)) hM0) ?_
          refine dl_pure rfl rfl rfl (pure_assign rfl rfl) ?_
          refine dl_nil ?_
          refine seq_pick 119 [(7, _), (8, _), (9, _), (10, _), (11, _)] [] rfl ⟨rfl, rfl, rfl, rfl, rfl, trivial⟩ trivial ?_
          refine code_seq ?_
          refine code_draw mixed (by kernel_rfl) _ rfl ?_
          refine dl_pure rfl rfl rfl (pure_move rfl rfl) ?_
          refine dl_pure rfl rfl rfl (pure_move rfl rfl) ?_
          refine dl_pure rfl rfl rfl (pure_move rfl rfl) ?_
          first | refine dl_pure rfl rfl rfl (pure_indexn (f := ints) (l := W) rfl Try.underlying23 sz22 rfl rfl (by omega) (fun _ => rfl)) ?_ | refine dl_pure rfl rfl rfl (pure_indexm (f := ints) (l := W) rfl Try.underlying23 sz22 rfl rfl (by omega) (fun _ => rfl)) ?_
          refine dl_pure rfl rfl rfl (pure_load rfl ag22 rfl rfl) ?_
          refine dl_pure rfl rfl rfl (pure_call rfl rfl rfl (level_call hA.len (hW.get i)) hM0) ?_
          refine dl_pure rfl rfl rfl (pure_move rfl rfl) ?_
          refine dl_pick 119 [(7, _), (8, _), (9, _), (10, _), (11, _), (49, _), (50, _)] [] rfl rfl ⟨rfl, rfl, rfl, rfl, rfl, rfl, rfl, trivial⟩ ?_
          refine dl_pure rfl rfl rfl (pure_move rfl rfl) ?_
          refine dl_pure rfl rfl rfl (pure_move rfl rfl) ?_
          first | refine dl_pure rfl rfl rfl (pure_indexn (f := ints) (l := W) rfl Try.underlying23 sz22 rfl rfl (by omega) (fun _ => rfl)) ?_ | refine dl_pure rfl rfl rfl (pure_indexm (f := ints) (l := W) rfl Try.underlying23 sz22 rfl rfl (by omega) (fun _ => rfl)) ?_
          refine dl_pure rfl rfl rfl (pure_load rfl ag22 rfl rfl) ?_
          refine dl_pure rfl rfl rfl (pure_call rfl rfl rfl (level_call hA.len (hW.get j)) hM0) ?_
          refine dl_pure rfl rfl rfl (pure_call rfl rfl rfl (same_call (Nat.le_trans (level_length_le _ _ _) (Nat.le_trans (hW.get i) (by decide)))) hM0) ?_
          refine dl_pure rfl rfl rfl (pure_assign rfl rfl) ?_
          refine dl_nil ?_
          refine seq_pick 119 [(7, _), (8, _), (9, _), (10, _), (11, _), (12, _)] [] rfl ⟨rfl, rfl, rfl, rfl, rfl, rfl, trivial⟩ trivial ?_
          refine code_seq ?_
          refine code_seq ?_
          refine code_draw mixed (by kernel_rfl) _ rfl ?_
          refine dl_pure rfl rfl rfl (pure_move rfl rfl) ?_
          refine dl_pure rfl rfl rfl (pure_to (b' := false) (pure_lss rfl rfl rfl) (decide_eq_false (by have h1 := order_bd (keyC (lettersP l) (W.getD i default)) (keyC (lettersP l) (W.getD j default)); omega))) ?_
          refine dl_pure rfl rfl rfl (pure_move rfl rfl) ?_
          refine dl_pure_g rfl rfl rfl rfl rfl (pure_move rfl rfl) ?_
          refine dl_pure_g rfl rfl rfl rfl rfl (pure_to (b' := false) (pure_gtr rfl rfl rfl) (decide_eq_false (by have h1 := order_bd (keyC (lettersP l) (W.getD i default)) (keyC (lettersP l) (W.getD j default)); omega))) ?_
          refine dl_pure rfl rfl rfl (pure_pick_f rfl rfl rfl rfl) ?_
          refine dl_pure rfl rfl rfl (pure_move rfl rfl) ?_
          refine dl_pick 119 [(7, _), (8, _), (9, _), (10, _), (11, _), (12, _), (63, _)] [] rfl rfl ⟨rfl, rfl, rfl, rfl, rfl, rfl, rfl, trivial⟩ ?_
          refine dl_pure_g rfl rfl rfl rfl rfl (pure_move rfl rfl) ?_
          refine dl_pure_g rfl rfl rfl rfl rfl (pure_move rfl rfl) ?_
          refine dl_pure_g rfl rfl rfl rfl rfl (pure_move rfl rfl) ?_
          refine dl_pure_g rfl rfl rfl rfl rfl (pure_move rfl rfl) ?_
          first | refine dl_pure_g rfl rfl rfl rfl rfl (pure_indexn (f := ints) (l := W) rfl Try.underlying23 sz22 rfl rfl (by omega) (fun _ => rfl)) ?_ | refine dl_pure_g rfl rfl rfl rfl rfl (pure_indexm (f := ints) (l := W) rfl Try.underlying23 sz22 rfl rfl (by omega) (fun _ => rfl)) ?_
          refine dl_pure_g rfl rfl rfl rfl rfl (pure_load rfl ag22 rfl rfl) ?_
          refine dl_pure_g rfl rfl rfl rfl rfl (pure_move rfl rfl) ?_
          refine dl_pick 119 [(7, _), (8, _), (9, _), (10, _), (11, _), (12, _), (63, _), (64, _), (65, _), (69, _), (70, _)] [] rfl rfl ⟨rfl, rfl, rfl, rfl, rfl, rfl, rfl, rfl, rfl, rfl, rfl, trivial⟩ ?_
          refine dl_pure_g rfl rfl rfl rfl rfl (pure_move rfl rfl) ?_
          first | refine dl_pure_g rfl rfl rfl rfl rfl (pure_indexn (f := ints) (l := W) rfl Try.underlying23 sz22 rfl rfl (by omega) (fun _ => rfl)) ?_ | refine dl_pure_g rfl rfl rfl rfl rfl (pure_indexm (f := ints) (l := W) rfl Try.underlying23 sz22 rfl rfl (by omega) (fun _ => rfl)) ?_
          refine dl_pure_g rfl rfl rfl rfl rfl (pure_load rfl ag22 rfl rfl) ?_
          refine dl_pure_g rfl rfl rfl rfl rfl (pure_call rfl rfl rfl (ccompare_call hA.len hA.txt (hW.get j) (hW.get i)) hM0) ?_
          refine dl_pure_g rfl rfl rfl rfl rfl (pure_neg rfl rfl (by have h1 := order_bd (keyC (lettersP l) (W.getD j default)) (keyC (lettersP l) (W.getD i default)); omega)) ?_
          refine dl_pure_g rfl rfl rfl rfl rfl (pure_to (b' := false) (pure_neq rfl rfl rfl) (by rw [order_neg (keyC (lettersP l) (W.getD i default)) (keyC (lettersP l) (W.getD j default))]; simp)) ?_
          refine dl_pure rfl rfl rfl (pure_pick_f rfl rfl rfl rfl) ?_
          refine dl_pick 119 [(7, _), (8, _), (9, _), (10, _), (11, _), (12, _), (77, _)] [] rfl rfl ⟨rfl, rfl, rfl, rfl, rfl, rfl, rfl, trivial⟩ ?_
          refine dl_pure rfl rfl rfl (pure_move rfl rfl) ?_
          refine dl_pure_g rfl rfl rfl rfl rfl (pure_move rfl rfl) ?_
          refine dl_pure_g rfl rfl rfl rfl rfl (pure_eql rfl rfl rfl) ?_
          refine dl_pure_g rfl rfl rfl rfl rfl (pure_move rfl rfl) ?_
          refine dl_pure_g rfl rfl rfl rfl rfl (pure_to (b' := false) (pure_bne Try.underlying4 rfl rfl rfl) (by simp [key_level (lettersP_valid l)])) ?_
          refine dl_pure rfl rfl rfl (pure_pick_f rfl rfl rfl rfl) ?_
          refine dl_nil ?_
          refine seq_pick 119 [(7, _), (8, _), (9, _), (10, _), (11, _), (83, _)] [] rfl ⟨rfl, rfl, rfl, rfl, rfl, rfl, trivial⟩ trivial ?_
          refine code_cond_f rfl ?_
          refine code_skip ?_
          refine seq_pick 119 [(7, _), (8, _), (9, _), (10, _), (11, _)] [] rfl ⟨rfl, rfl, rfl, rfl, rfl, trivial⟩ trivial ?_
          refine code_seq ?_
          refine code_ops _ rfl ?_
          refine ol_pure rfl rfl rfl (pure_assign rfl rfl) ?_
          refine ol_nil ?_
          refine seq_pick 119 [(7, _), (8, _), (9, _), (10, _), (11, _), (13, _)] [] rfl ⟨rfl, rfl, rfl, rfl, rfl, rfl, trivial⟩ trivial ?_
          refine code_block ?_
          refine code_loopM (fun zm zs => ∃ k : Nat, zm = W.length - k ∧ (k ≤ W.length) ∧ zs = ⟨119, [(7, .v .pl (letters (lettersP l))), (8, .v .pl (intss W)), (9, .v .pl (int i)), (10, .v .pl (int j)), (11, .v .pl (int (order (keyC (lettersP l) (W.getD i default)) (keyC (lettersP l) (W.getD j default))))), (13, .v .pl (int k))], []⟩) (loop_init (n := 119) (l := [(7, _), (8, _), (9, _), (10, _), (11, _), (13, _)]) (o' := []) rfl ⟨rfl, rfl, rfl, rfl, rfl, rfl, trivial⟩ trivial ?_) ?_
          · exact ⟨_, 0, rfl, Nat.zero_le _, rfl⟩
          · rintro zm zs ⟨k, rfl, hL3_0, rfl⟩
            refine code_seq ?_
            refine code_seq ?_
            refine code_ops _ rfl ?_
            refine ol_pure rfl rfl rfl (pure_move rfl rfl) ?_
            refine ol_pure rfl rfl rfl (pure_move rfl rfl) ?_
            refine ol_pure rfl rfl rfl (pure_lenm rfl Try.underlying23 rfl) ?_
            refine ol_pure rfl rfl rfl (pure_lss rfl rfl rfl) ?_
            refine ol_nil ?_
            refine seq_pick 119 [(7, _), (8, _), (9, _), (10, _), (11, _), (13, _), (87, _)] [] rfl ⟨rfl, rfl, rfl, rfl, rfl, rfl, rfl, trivial⟩ trivial ?_
            refine code_cond rfl (fun h3 => ?_) (fun h3 => ?_)
            · try simp only [decide_eq_true_eq, decide_eq_false_iff_not, Bool.not_eq_true', Bool.not_eq_false', Bool.and_eq_true, Bool.or_eq_true, Bool.and_eq_false_iff, List.length_map, Int.toNat_natCast] at h3
              refine code_skip ?_
              refine seq_pick 119 [(7, _), (8, _), (9, _), (10, _), (11, _), (13, _)] [] rfl ⟨rfl, rfl, rfl, rfl, rfl, rfl, trivial⟩ trivial ?_
              refine code_seq ?_
              refine code_block ?_
              refine code_seq ?_
              refine code_draw mixed (by kernel_rfl) _ rfl ?_
              refine dl_pure rfl rfl rfl (pure_move rfl rfl) ?_
              refine dl_pure rfl rfl rfl (pure_leq rfl rfl rfl) ?_
              refine dl_pure rfl rfl rfl (pure_move rfl rfl) ?_
              refine dl_guard rfl (fun h4 => ?_) (fun h4 => ?_)
              · have h4' := h4; try simp only [decide_eq_true_eq, decide_eq_false_iff_not, Bool.not_eq_true', Bool.not_eq_false', Bool.and_eq_true, Bool.or_eq_true, Bool.and_eq_false_iff, List.length_map, Int.toNat_natCast] at h4'
                refine dl_pure_g rfl rfl h4 rfl rfl (pure_move rfl rfl) ?_
                refine dl_pure_g rfl rfl h4 rfl rfl (pure_move rfl rfl) ?_
                refine dl_pure_g rfl rfl h4 rfl rfl (pure_move rfl rfl) ?_
                first | refine dl_pure_g rfl rfl h4 rfl rfl (pure_indexn (f := ints) (l := W) rfl Try.underlying23 sz22 rfl rfl (by omega) (fun _ => rfl)) ?_ | refine dl_pure_g rfl rfl h4 rfl rfl (pure_indexm (f := ints) (l := W) rfl Try.underlying23 sz22 rfl rfl (by omega) (fun _ => rfl)) ?_
                refine dl_pick 119 [(7, _), (8, _), (9, _), (10, _), (11, _), (13, _), (92, _), (93, _), (96, _)] [] rfl rfl ⟨rfl, rfl, rfl, rfl, rfl, rfl, rfl, rfl, rfl, trivial⟩ ?_
                refine dl_pure_g rfl rfl h4 rfl rfl (pure_load rfl ag22 rfl rfl) ?_
                refine dl_pure_g rfl rfl h4 rfl rfl (pure_move rfl rfl) ?_
                refine dl_pure_g rfl rfl h4 rfl rfl (pure_move rfl rfl) ?_
                first | refine dl_pure_g rfl rfl h4 rfl rfl (pure_indexn (f := ints) (l := W) rfl Try.underlying23 sz22 rfl rfl (by omega) (fun _ => rfl)) ?_ | refine dl_pure_g rfl rfl h4 rfl rfl (pure_indexm (f := ints) (l := W) rfl Try.underlying23 sz22 rfl rfl (by omega) (fun _ => rfl)) ?_
                refine dl_pure_g rfl rfl h4 rfl rfl (pure_load rfl ag22 rfl rfl) ?_
                refine dl_pure_g rfl rfl h4 rfl rfl (pure_call rfl rfl rfl (ccompare_call hA.len hA.txt (hW.get j) (hW.get k)) hM0) ?_
                refine dl_pure_g rfl rfl h4 rfl rfl (pure_leq rfl rfl rfl) ?_
                refine dl_pick 119 [(7, _), (8, _), (9, _), (10, _), (11, _), (13, _), (92, _), (103, _)] [] rfl rfl ⟨rfl, rfl, rfl, rfl, rfl, rfl, rfl, rfl, trivial⟩ ?_
                refine dl_pure rfl rfl rfl (pure_pick_t rfl rfl h4 rfl) ?_
                refine dl_pure rfl rfl rfl (pure_move rfl rfl) ?_
                refine dl_guard rfl (fun h5 => ?_) (fun h5 => ?_)
                · have h5' := h5; try simp only [decide_eq_true_eq, decide_eq_false_iff_not, Bool.not_eq_true', Bool.not_eq_false', Bool.and_eq_true, Bool.or_eq_true, Bool.and_eq_false_iff, List.length_map, Int.toNat_natCast] at h5'
                  refine dl_pure_g rfl rfl h5 rfl rfl (pure_move rfl rfl) ?_
                  refine dl_pure_g rfl rfl h5 rfl rfl (pure_move rfl rfl) ?_
                  refine dl_pure_g rfl rfl h5 rfl rfl (pure_move rfl rfl) ?_
                  first | refine dl_pure_g rfl rfl h5 rfl rfl (pure_indexn (f := ints) (l := W) rfl Try.underlying23 sz22 rfl rfl (by omega) (fun _ => rfl)) ?_ | refine dl_pure_g rfl rfl h5 rfl rfl (pure_indexm (f := ints) (l := W) rfl Try.underlying23 sz22 rfl rfl (by omega) (fun _ => rfl)) ?_
                  refine dl_pure_g rfl rfl h5 rfl rfl (pure_load rfl ag22 rfl rfl) ?_
                  refine dl_pick 119 [(7, _), (8, _), (9, _), (10, _), (11, _), (13, _), (105, _), (106, _), (110, _)] [] rfl rfl ⟨rfl, rfl, rfl, rfl, rfl, rfl, rfl, rfl, rfl, trivial⟩ ?_
                  refine dl_pure_g rfl rfl h5 rfl rfl (pure_move rfl rfl) ?_
                  refine dl_pure_g rfl rfl h5 rfl rfl (pure_move rfl rfl) ?_
                  first | refine dl_pure_g rfl rfl h5 rfl rfl (pure_indexn (f := ints) (l := W) rfl Try.underlying23 sz22 rfl rfl (by omega) (fun _ => rfl)) ?_ | refine dl_pure_g rfl rfl h5 rfl rfl (pure_indexm (f := ints) (l := W) rfl Try.underlying23 sz22 rfl rfl (by omega) (fun _ => rfl)) ?_
                  refine dl_pure_g rfl rfl h5 rfl rfl (pure_load rfl ag22 rfl rfl) ?_
                  refine dl_pure_g rfl rfl h5 rfl rfl (pure_call rfl rfl rfl (ccompare_call hA.len hA.txt (hW.get i) (hW.get k)) hM0) ?_
                  refine dl_pure_g rfl rfl h5 rfl rfl (pure_to (b' := false) (pure_gtr rfl rfl rfl) (decide_eq_false (by have h1 := order_lt_le (a := keyC (lettersP l) (W.getD i default)) (b := keyC (lettersP l) (W.getD j default)) (c := keyC (lettersP l) (W.getD k default)) (by assumption) (by assumption); omega))) ?_
                  refine dl_pure rfl rfl rfl (pure_pick_t rfl rfl h5 rfl) ?_
                  refine dl_nil ?_
                  refine seq_pick 119 [(7, _), (8, _), (9, _), (10, _), (11, _), (13, _), (117, _)] [] rfl ⟨rfl, rfl, rfl, rfl, rfl, rfl, rfl, trivial⟩ trivial ?_
                  refine code_cond_f rfl ?_
                  refine code_skip ?_
                  refine blockQ_normal ?_
                  refine seq_pick 119 [(7, _), (8, _), (9, _), (10, _), (11, _), (13, _)] [] rfl ⟨rfl, rfl, rfl, rfl, rfl, rfl, trivial⟩ trivial ?_
                  refine code_ops _ rfl ?_
                  refine ol_pure rfl rfl rfl (pure_move rfl rfl) ?_
                  refine ol_pure rfl rfl rfl (pure_addi rfl rfl rfl (by omega)) ?_
                  refine ol_pure rfl rfl rfl (pure_assign rfl rfl) ?_
                  refine ol_nil ?_
                  refine loop_next (n := 119) (l := [(7, _), (8, _), (9, _), (10, _), (11, _), (13, _)]) (o' := []) rfl ⟨rfl, rfl, rfl, rfl, rfl, rfl, trivial⟩ trivial ?_   -- loop 3 end 1
                  exact ⟨_, ⟨k + 1, rfl, by omega, rfl⟩, by omega⟩
                · have h5' := h5; try simp only [decide_eq_true_eq, decide_eq_false_iff_not, Bool.not_eq_true', Bool.not_eq_false', Bool.and_eq_true, Bool.or_eq_true, Bool.and_eq_false_iff, List.length_map, Int.toNat_natCast] at h5'
                  refine dl_skip_g rfl rfl h5 rfl rfl ?_
                  refine dl_skip_g rfl rfl h5 rfl rfl ?_
                  refine dl_skip_g rfl rfl h5 rfl rfl ?_
                  refine dl_skip_g rfl rfl h5 rfl rfl ?_
                  refine dl_skip_g rfl rfl h5 rfl rfl ?_
                  refine dl_pick 119 [(7, _), (8, _), (9, _), (10, _), (11, _), (13, _), (105, _), (106, _), (110, _)] [] rfl rfl ⟨rfl, rfl, rfl, rfl, rfl, rfl, rfl, rfl, rfl, trivial⟩ ?_
                  refine dl_skip_g rfl rfl h5 rfl rfl ?_
                  refine dl_skip_g rfl rfl h5 rfl rfl ?_
                  refine dl_skip_g rfl rfl h5 rfl rfl ?_
                  refine dl_skip_g rfl rfl h5 rfl rfl ?_
                  refine dl_skip_g rfl rfl h5 rfl rfl ?_
                  refine dl_skip_g rfl rfl h5 rfl rfl ?_
                  refine dl_pure rfl rfl rfl (pure_pick_f rfl rfl h5 rfl) ?_
                  refine dl_nil ?_
                  refine seq_pick 119 [(7, _), (8, _), (9, _), (10, _), (11, _), (13, _), (117, _)] [] rfl ⟨rfl, rfl, rfl, rfl, rfl, rfl, rfl, trivial⟩ trivial ?_
                  refine code_cond_f rfl ?_
                  refine code_skip ?_
                  refine blockQ_normal ?_
                  refine seq_pick 119 [(7, _), (8, _), (9, _), (10, _), (11, _), (13, _)] [] rfl ⟨rfl, rfl, rfl, rfl, rfl, rfl, trivial⟩ trivial ?_
                  refine code_ops _ rfl ?_
                  refine ol_pure rfl rfl rfl (pure_move rfl rfl) ?_
                  refine ol_pure rfl rfl rfl (pure_addi rfl rfl rfl (by omega)) ?_
                  refine ol_pure rfl rfl rfl (pure_assign rfl rfl) ?_
                  refine ol_nil ?_
                  refine loop_next (n := 119) (l := [(7, _), (8, _), (9, _), (10, _), (11, _), (13, _)]) (o' := []) rfl ⟨rfl, rfl, rfl, rfl, rfl, rfl, trivial⟩ trivial ?_   -- loop 3 end 2
                  exact ⟨_, ⟨k + 1, rfl, by omega, rfl⟩, by omega⟩
              · have h4' := h4; try simp only [decide_eq_true_eq, decide_eq_false_iff_not, Bool.not_eq_true', Bool.not_eq_false', Bool.and_eq_true, Bool.or_eq_true, Bool.and_eq_false_iff, List.length_map, Int.toNat_natCast] at h4'
                refine dl_skip_g rfl rfl h4 rfl rfl ?_
                refine dl_skip_g rfl rfl h4 rfl rfl ?_
                refine dl_skip_g rfl rfl h4 rfl rfl ?_
                refine dl_skip_g rfl rfl h4 rfl rfl ?_
                refine dl_pick 119 [(7, _), (8, _), (9, _), (10, _), (11, _), (13, _), (92, _), (93, _), (96, _)] [] rfl rfl ⟨rfl, rfl, rfl, rfl, rfl, rfl, rfl, rfl, rfl, trivial⟩ ?_
                refine dl_skip_g rfl rfl h4 rfl rfl ?_
                refine dl_skip_g rfl rfl h4 rfl rfl ?_
                refine dl_skip_g rfl rfl h4 rfl rfl ?_
                refine dl_skip_g rfl rfl h4 rfl rfl ?_
                refine dl_skip_g rfl rfl h4 rfl rfl ?_
                refine dl_skip_g rfl rfl h4 rfl rfl ?_
                refine dl_skip_g rfl rfl h4 rfl rfl ?_
                refine dl_pick 119 [(7, _), (8, _), (9, _), (10, _), (11, _), (13, _), (92, _), (103, _)] [] rfl rfl ⟨rfl, rfl, rfl, rfl, rfl, rfl, rfl, rfl, trivial⟩ ?_
                refine dl_pure rfl rfl rfl (pure_pick_f rfl rfl h4 rfl) ?_
                refine dl_pure rfl rfl rfl (pure_move rfl rfl) ?_
                refine dl_skip_g rfl rfl rfl rfl rfl ?_
                refine dl_skip_g rfl rfl rfl rfl rfl ?_
                refine dl_skip_g rfl rfl rfl rfl rfl ?_
                refine dl_skip_g rfl rfl rfl rfl rfl ?_
                refine dl_skip_g rfl rfl rfl rfl rfl ?_
                refine dl_pick 119 [(7, _), (8, _), (9, _), (10, _), (11, _), (13, _), (105, _), (106, _), (110, _)] [] rfl rfl ⟨rfl, rfl, rfl, rfl, rfl, rfl, rfl, rfl, rfl, trivial⟩ ?_
                refine dl_skip_g rfl rfl rfl rfl rfl ?_
                refine dl_skip_g rfl rfl rfl rfl rfl ?_
                refine dl_skip_g rfl rfl rfl rfl rfl ?_
                refine dl_skip_g rfl rfl rfl rfl rfl ?_
                refine dl_skip_g rfl rfl rfl rfl rfl ?_
                refine dl_skip_g rfl rfl rfl rfl rfl ?_
                refine dl_pure rfl rfl rfl (pure_pick_f rfl rfl rfl rfl) ?_
                refine dl_nil ?_
                refine seq_pick 119 [(7, _), (8, _), (9, _), (10, _), (11, _), (13, _), (117, _)] [] rfl ⟨rfl, rfl, rfl, rfl, rfl, rfl, rfl, trivial⟩ trivial ?_
                refine code_cond_f rfl ?_
                refine code_skip ?_
                refine blockQ_normal ?_
                refine seq_pick 119 [(7, _), (8, _), (9, _), (10, _), (11, _), (13, _)] [] rfl ⟨rfl, rfl, rfl, rfl, rfl, rfl, trivial⟩ trivial ?_
                refine code_ops _ rfl ?_
                refine ol_pure rfl rfl rfl (pure_move rfl rfl) ?_
                refine ol_pure rfl rfl rfl (pure_addi rfl rfl rfl (by omega)) ?_
                refine ol_pure rfl rfl rfl (pure_assign rfl rfl) ?_
                refine ol_nil ?_
                refine loop_next (n := 119) (l := [(7, _), (8, _), (9, _), (10, _), (11, _), (13, _)]) (o' := []) rfl ⟨rfl, rfl, rfl, rfl, rfl, rfl, trivial⟩ trivial ?_   -- loop 3 end 3
                exact ⟨_, ⟨k + 1, rfl, by omega, rfl⟩, by omega⟩
            · try simp only [decide_eq_true_eq, decide_eq_false_iff_not, Bool.not_eq_true', Bool.not_eq_false', Bool.and_eq_true, Bool.or_eq_true, Bool.and_eq_false_iff, List.length_map, Int.toNat_natCast] at h3
              refine code_exit ?_
              refine seqQ_exit ?_
              refine loopM_exit ?_
              refine blockQ_same ?_
              refine blockQ_normal ?_
              refine seq_pick 119 [(7, _), (8, _), (9, _), (10, _)] [] rfl ⟨rfl, rfl, rfl, rfl, trivial⟩ trivial ?_
              refine code_ops _ rfl ?_
              refine ol_pure rfl rfl rfl (pure_move rfl rfl) ?_
              refine ol_pure rfl rfl rfl (pure_addi rfl rfl rfl (by omega)) ?_
              refine ol_pure rfl rfl rfl (pure_assign rfl rfl) ?_
              refine ol_nil ?_
              refine loop_next (n := 119) (l := [(7, _), (8, _), (9, _), (10, _)]) (o' := []) rfl ⟨rfl, rfl, rfl, rfl, trivial⟩ trivial ?_   -- loop 2 end 1
              exact ⟨_, ⟨j + 1, rfl, by omega, rfl⟩, by omega⟩
        · try simp only [decide_eq_true_eq, decide_eq_false_iff_not, Bool.not_eq_true', Bool.not_eq_false', Bool.and_eq_true, Bool.or_eq_true, Bool.and_eq_false_iff, List.length_map, Int.toNat_natCast] at h2
          refine code_exit ?_
          refine seqQ_exit ?_
          refine loopM_exit ?_
          refine blockQ_same ?_
          refine blockQ_normal ?_
          refine seq_pick 119 [(7, _), (8, _), (9, _)] [] rfl ⟨rfl, rfl, rfl, trivial⟩ trivial ?_
          refine code_ops _ rfl ?_
          refine ol_pure rfl rfl rfl (pure_move rfl rfl) ?_
          refine ol_pure rfl rfl rfl (pure_addi rfl rfl rfl (by omega)) ?_
          refine ol_pure rfl rfl rfl (pure_assign rfl rfl) ?_
          refine ol_nil ?_
          refine loop_next (n := 119) (l := [(7, _), (8, _), (9, _)]) (o' := []) rfl ⟨rfl, rfl, rfl, trivial⟩ trivial ?_   -- loop 1 end 1
          exact ⟨_, ⟨i + 1, rfl, by omega, rfl⟩, by omega⟩
    · try simp only [decide_eq_true_eq, decide_eq_false_iff_not, Bool.not_eq_true', Bool.not_eq_false', Bool.and_eq_true, Bool.or_eq_true, Bool.and_eq_false_iff, List.length_map, Int.toNat_natCast] at h1
      refine code_exit ?_
      refine seqQ_exit ?_
      refine loopM_exit ?_
      refine blockQ_same ?_
      refine seq_pick 119 [] [] rfl trivial trivial ?_
      refine code_seq ?_
      refine code_ops _ rfl ?_
      refine ol_pure rfl rfl rfl (pure_call rfl rfl rfl (lives_call) hM0) ?_
      refine ol_pure rfl rfl rfl (pure_assign rfl rfl) ?_
      refine ol_nil ?_
      refine seq_pick 119 [(6, _)] [] rfl ⟨rfl, trivial⟩ trivial ?_
      refine code_ret ?_
      refine end_ret rfl ?_   -- end 1
      rfl
/-! The statement CollateOrderSaid. -/
namespace collateOrder
open Go.ChangeShapes Go.WideShapes Go.ChangeAt Go.RowKit Go.Am
theorem own : ownKnob Try.prog.godebug = none := by kernel_rfl
set_option maxRecDepth 100000 in
theorem lifted (os : Os) (started : os.Started) (H : Type) (enc : TypeId × Value → H) :
    ReturnsInHanded {} Try.checked os 7 .any (Rows.collateOrderSpec.pre6 enc Try.prog Try.f7 Rows.collateOrderRow.domain false) (Rows.collateOrderSpec.post enc Try.prog Try.f7 false true false false) := by
  refine returnsInHanded_of_change (C := Try.checked) own started (by kernel_rfl) Try.func7
    (ChangeSpec.witness6 (enc := enc) (C := Try.checked) false ⟨#[], #[.slice none 0 0, .slice none 0 0, .slice none 0 0], []⟩ 8 (by kernel_rfl) (by kernel_rfl) (by kernel_rfl) (by kernel_rfl)) ?_
  intro W base args ds gs before hval0 hW hcnd _
  have hval : ∀ (j : Nat) t v, Try.f7.params[j]? = some t → args[j]? = some v → Value.okWide Try.prog W .any base t v := hval0
  have hW' := hW
  obtain ⟨p, q, hA0, hV, rfl, hfz, hnd⟩ := hW
  have hA : DataW.TrodAll enc Try.prog W 0 (fun _ => true) true Try.f7.params.toList args.toList ds p := hA0
  rw [Try.params7] at hA hval
  obtain ⟨v0, vs0, d0, ds0, p0, q0, hargs, rfl, rfl, h0, r0⟩ := trodAll_cons hA
  obtain ⟨v1, vs1, d1, ds1, p1, q1, rfl, rfl, rfl, h1, r1⟩ := trodAll_cons r0
  obtain ⟨v2, vs2, d2, ds2, p2, q2, rfl, rfl, rfl, h2, r2⟩ := trodAll_cons r1
  obtain ⟨rfl, rfl, rfl⟩ := trodAll_nil r2
  obtain rfl : args = #[v0, v1, v2] := by cases args; simp_all
  obtain ⟨x0, y0, z0, e0⟩ := open_intsA Try.underlying22 Try.underlying3 sz3 (hval 0 22 v0 rfl rfl) h0
  obtain ⟨x1, y1, z1, e1⟩ := open_intsA Try.underlying22 Try.underlying3 sz3 (hval 1 22 v1 rfl rfl) h1
  obtain ⟨x2, y2, z2, e2⟩ := open_intssA Try.underlying23 Try.underlying22 Try.underlying3 sz22 sz3 (hval 2 23 v2 rfl rfl) h2
  have hcall := (order_law z0 y0 z1 z2 (fun y hy => (y2 y hy).2)).use (w := W) (vs := [v0, v1, v2]) ⟨e0, e1, e2, trivial⟩
  exact law_post (tb := 4) (by kernel_rfl) (by kernel_rfl) (by kernel_rfl) Try.underlying4 rfl rfl hW' hcall
theorem over : Rows.collateOrderRow.holds Try.pinned (OpenSpec.ofChange Rows.collateOrderSpec) :=
  OpenClaim.holds_of_wide 7 Try.f7 rfl rfl rfl rfl rfl rfl rfl ⟨rfl, rfl, rfl, rfl, rfl⟩ rfl rfl rfl rfl rfl (by kernel_rfl) Try.func7 (by kernel_rfl)
    (of_decide_eq_true (by kernel_rfl)) (by unfold Func.isWrapper; first | (rw [if_pos (by decide +kernel)]; kernel_rfl) | (rw [if_neg (by decide +kernel)]; exact ⟨rfl, rfl⟩))
    (fun os started H enc _ => lifted os started H enc)
end collateOrder
theorem collateOrder_holds : Rows.CollateOrderSaid := collateOrder.over
end Go.Proofs.Ytcimmcjnkphagaa
