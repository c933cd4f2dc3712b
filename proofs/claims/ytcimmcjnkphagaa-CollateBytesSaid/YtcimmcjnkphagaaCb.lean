/-
  Contracts of the reference's levels.
-/
import Derived.Test.YtcimmcjnkphagaaCa
namespace Go.Proofs.Ytcimmcjnkphagaa
open Go.Am Go.Wb
set_option linter.unusedVariables false
set_option linter.unusedSimpArgs false

theorem fn32 : Fn1 Try.prog 32 Try.f32.ntmps 6 (Try.f32.body.getD .skip) := ⟨Try.f32, Try.func32, rfl, rfl, rfl, by kernel_rfl⟩
set_option maxRecDepth 100000 in
set_option maxHeartbeats 2000000 in
theorem level_call {a : List Letter} {w : List Int} {k : Int} (ha : a.length ≤ 1099511627776) (hw : w.length ≤ 1099511627776) : CallF Try.prog 32 [letters a, ints w, int k] (.fresh 3 ((level a w k).map int)) := by
  refine callF_of_code fn32 (Nat.le_of_ble_eq_true rfl) fun w0 M0 hM0 => ?_
  refine code_seq ?_
  refine code_ops _ rfl ?_
  refine ol_pure rfl rfl rfl (pure_assign rfl rfl) ?_
  refine ol_nil ?_
  refine seq_pick 66 [(0, _), (1, _), (2, _)] [] rfl ⟨rfl, rfl, rfl, trivial⟩ trivial ?_
  refine code_seq ?_
  refine code_ops _ rfl ?_
  refine ol_step rfl (step_nil rfl rfl rfl rfl rfl 3 hM0) ?_
  refine ol_nil ?_
  refine seq_pick 66 [(0, _), (1, _), (2, _), (7, _)] [(7, _)] rfl ⟨rfl, rfl, rfl, rfl, trivial⟩ ⟨rfl, trivial⟩ ?_
  refine code_seq ?_
  refine code_seq ?_
  refine code_ops _ rfl ?_
  refine ol_pure rfl rfl rfl (pure_assign rfl rfl) ?_
  refine ol_nil ?_
  refine seq_pick 66 [(0, _), (1, _), (2, _), (7, _), (8, _)] [(7, _)] rfl ⟨rfl, rfl, rfl, rfl, rfl, trivial⟩ ⟨rfl, trivial⟩ ?_
  refine code_block ?_
  refine code_loopM (fun zm zs => ∃ i : Nat, zm = w.length - i ∧ (i ≤ w.length) ∧ zs = ⟨66, [(0, .v .mx (letters a)), (1, .v .mx (ints w)), (2, .v .mx (int k)), (7, .own 7), (8, .v .pl (int i))], [(7, .arr 3 ((level a (w.take i) k).map int))]⟩) (loop_init (n := 66) (l := [(0, _), (1, _), (2, _), (7, _), (8, _)]) (o' := [(7, _)]) rfl ⟨rfl, rfl, rfl, rfl, rfl, trivial⟩ ⟨rfl, trivial⟩ ?_) ?_
  · refine ⟨_, 0, rfl, Nat.zero_le _, ?_⟩
    have h0 : level a (w.take 0) k = [] := by unfold level lets; simp
    rw [h0]; rfl
  · rintro zm zs ⟨i, rfl, hL1_0, rfl⟩
    have hll : (level a (w.take i) k).length ≤ w.length := Nat.le_trans (level_length_le _ _ _) (by rw [List.length_take]; omega)
    refine code_seq ?_
    refine code_seq ?_
    refine code_ops _ rfl ?_
    refine ol_pure rfl rfl rfl (pure_move rfl rfl) ?_
    refine ol_pure rfl rfl rfl (pure_move rfl rfl) ?_
    refine ol_pure rfl rfl rfl (pure_lenm rfl Try.underlying22 rfl) ?_
    refine ol_pure rfl rfl rfl (pure_lss rfl rfl rfl) ?_
    refine ol_nil ?_
    refine seq_pick 66 [(0, _), (1, _), (2, _), (7, _), (8, _), (13, _)] [(7, _)] rfl ⟨rfl, rfl, rfl, rfl, rfl, rfl, trivial⟩ ⟨rfl, trivial⟩ ?_
    refine code_cond rfl (fun h1 => ?_) (fun h1 => ?_)
    · try simp only [decide_eq_true_eq, decide_eq_false_iff_not, Bool.not_eq_true', Bool.not_eq_false', Bool.and_eq_true, Bool.or_eq_true, Bool.and_eq_false_iff, List.length_map, Int.toNat_natCast] at h1
      refine code_skip ?_
      refine seq_pick 66 [(0, _), (1, _), (2, _), (7, _), (8, _)] [(7, _)] rfl ⟨rfl, rfl, rfl, rfl, rfl, trivial⟩ ⟨rfl, trivial⟩ ?_
      refine code_seq ?_
      refine code_block ?_
      refine code_seq ?_
      refine code_ops _ rfl ?_
      refine ol_pure rfl rfl rfl (pure_move rfl rfl) ?_
      refine ol_pure rfl rfl rfl (pure_move rfl rfl) ?_
      first | refine ol_pure rfl rfl rfl (pure_indexn rfl Try.underlying22 sz3 rfl rfl (by omega) (fun _ => rfl)) ?_ | refine ol_pure rfl rfl rfl (pure_indexm rfl Try.underlying22 sz3 rfl rfl (by omega) (fun _ => rfl)) ?_
      refine ol_pure rfl rfl rfl (pure_load rfl ag3 rfl rfl) ?_
      refine ol_pure rfl rfl rfl (pure_assign rfl rfl) ?_
      refine ol_nil ?_
      refine seq_pick 66 [(0, _), (1, _), (2, _), (7, _), (8, _), (9, _)] [(7, _)] rfl ⟨rfl, rfl, rfl, rfl, rfl, rfl, trivial⟩ ⟨rfl, trivial⟩ ?_
      refine code_seq ?_
      refine code_seq ?_
      refine code_ops _ rfl ?_
      refine ol_pure rfl rfl rfl (pure_move rfl rfl) ?_
      refine ol_pure rfl rfl rfl (pure_lss rfl rfl rfl) ?_
      refine ol_pure rfl rfl rfl (pure_move rfl rfl) ?_
      refine ol_guard rfl (fun h2 => ?_) (fun h2 => ?_)
      · have h2' := h2; try simp only [decide_eq_true_eq, decide_eq_false_iff_not, Bool.not_eq_true', Bool.not_eq_false', Bool.and_eq_true, Bool.or_eq_true, Bool.and_eq_false_iff, List.length_map, Int.toNat_natCast] at h2'
        refine ol_skip_g rfl rfl h2 rfl rfl ?_
        refine ol_skip_g rfl rfl h2 rfl rfl ?_
        refine ol_skip_g rfl rfl h2 rfl rfl ?_
        refine ol_skip_g rfl rfl h2 rfl rfl ?_
        refine ol_pure rfl rfl rfl (pure_pick_t rfl rfl h2 rfl) ?_
        refine ol_nil ?_
        refine seq_pick 66 [(0, _), (1, _), (2, _), (7, _), (8, _), (9, _), (27, _)] [(7, _)] rfl ⟨rfl, rfl, rfl, rfl, rfl, rfl, rfl, trivial⟩ ⟨rfl, trivial⟩ ?_
        refine code_cond_t rfl ?_
        refine code_exit ?_
        refine seqQ_exit ?_
        refine blockQ_same ?_
        refine seq_pick 66 [(0, _), (1, _), (2, _), (7, _), (8, _)] [(7, _)] rfl ⟨rfl, rfl, rfl, rfl, rfl, trivial⟩ ⟨rfl, trivial⟩ ?_
        refine code_ops _ rfl ?_
        refine ol_pure rfl rfl rfl (pure_move rfl rfl) ?_
        refine ol_pure rfl rfl rfl (pure_addi rfl rfl rfl (by omega)) ?_
        refine ol_pure rfl rfl rfl (pure_assign rfl rfl) ?_
        refine ol_nil ?_
        refine loop_next (n := 66) (l := [(0, _), (1, _), (2, _), (7, _), (8, _)]) (o' := [(7, _)]) rfl ⟨rfl, rfl, rfl, rfl, rfl, trivial⟩ ⟨rfl, trivial⟩ ?_   -- loop 1 end 1
        exact ⟨_, ⟨i + 1, rfl, by omega, by rw [take_succ (by omega), level_snoc_not _ _ _ _ (isL_false (by omega))]; rfl⟩, by omega⟩
      · have h2' := h2; try simp only [decide_eq_true_eq, decide_eq_false_iff_not, Bool.not_eq_true', Bool.not_eq_false', Bool.and_eq_true, Bool.or_eq_true, Bool.and_eq_false_iff, List.length_map, Int.toNat_natCast] at h2'
        refine ol_pure_g rfl rfl h2 rfl rfl (pure_move rfl rfl) ?_
        refine ol_pure_g rfl rfl h2 rfl rfl (pure_move rfl rfl) ?_
        refine ol_pure_g rfl rfl h2 rfl rfl (pure_lenm rfl Try.underlying24 rfl) ?_
        refine ol_pure_g rfl rfl h2 rfl rfl (pure_geq rfl rfl rfl) ?_
        refine ol_pure rfl rfl rfl (pure_pick_f rfl rfl h2 rfl) ?_
        refine ol_nil ?_
        refine seq_pick 66 [(0, _), (1, _), (2, _), (7, _), (8, _), (9, _), (27, _)] [(7, _)] rfl ⟨rfl, rfl, rfl, rfl, rfl, rfl, rfl, trivial⟩ ⟨rfl, trivial⟩ ?_
        refine code_cond rfl (fun h3 => ?_) (fun h3 => ?_)
        · try simp only [decide_eq_true_eq, decide_eq_false_iff_not, Bool.not_eq_true', Bool.not_eq_false', Bool.and_eq_true, Bool.or_eq_true, Bool.and_eq_false_iff, List.length_map, Int.toNat_natCast] at h3
          refine code_exit ?_
          refine seqQ_exit ?_
          refine blockQ_same ?_
          refine seq_pick 66 [(0, _), (1, _), (2, _), (7, _), (8, _)] [(7, _)] rfl ⟨rfl, rfl, rfl, rfl, rfl, trivial⟩ ⟨rfl, trivial⟩ ?_
          refine code_ops _ rfl ?_
          refine ol_pure rfl rfl rfl (pure_move rfl rfl) ?_
          refine ol_pure rfl rfl rfl (pure_addi rfl rfl rfl (by omega)) ?_
          refine ol_pure rfl rfl rfl (pure_assign rfl rfl) ?_
          refine ol_nil ?_
          refine loop_next (n := 66) (l := [(0, _), (1, _), (2, _), (7, _), (8, _)]) (o' := [(7, _)]) rfl ⟨rfl, rfl, rfl, rfl, rfl, trivial⟩ ⟨rfl, trivial⟩ ?_   -- loop 1 end 2
          exact ⟨_, ⟨i + 1, rfl, by omega, by rw [take_succ (by omega), level_snoc_not _ _ _ _ (isL_false (by omega))]; rfl⟩, by omega⟩
        · try simp only [decide_eq_true_eq, decide_eq_false_iff_not, Bool.not_eq_true', Bool.not_eq_false', Bool.and_eq_true, Bool.or_eq_true, Bool.and_eq_false_iff, List.length_map, Int.toNat_natCast] at h3
          refine code_skip ?_
          refine seq_pick 66 [(0, _), (1, _), (2, _), (7, _), (8, _), (9, _)] [(7, _)] rfl ⟨rfl, rfl, rfl, rfl, rfl, rfl, trivial⟩ ⟨rfl, trivial⟩ ?_
          refine code_seq ?_
          refine code_ops _ rfl ?_
          refine ol_pure rfl rfl rfl (pure_move rfl rfl) ?_
          refine ol_nil ?_
          refine seq_pick 66 [(0, _), (1, _), (2, _), (7, _), (8, _), (9, _), (28, _)] [(7, _)] rfl ⟨rfl, rfl, rfl, rfl, rfl, rfl, rfl, trivial⟩ ⟨rfl, trivial⟩ ?_
          refine code_block ?_
          refine code_seq ?_
          refine code_ops _ rfl ?_
          refine ol_pure rfl rfl rfl (pure_eql rfl rfl rfl) ?_
          refine ol_pure rfl rfl rfl (pure_assign rfl rfl) ?_
          refine ol_nil ?_
          refine seq_pick 66 [(0, _), (1, _), (2, _), (7, _), (8, _), (9, _), (28, _), (29, _)] [(7, _)] rfl ⟨rfl, rfl, rfl, rfl, rfl, rfl, rfl, rfl, trivial⟩ ⟨rfl, trivial⟩ ?_
          refine code_cond rfl (fun h4 => ?_) (fun h4 => ?_)
          · try simp only [decide_eq_true_eq, decide_eq_false_iff_not, Bool.not_eq_true', Bool.not_eq_false', Bool.and_eq_true, Bool.or_eq_true, Bool.and_eq_false_iff, List.length_map, Int.toNat_natCast] at h4
            refine code_ops _ rfl ?_
            refine ol_pure rfl rfl rfl (pure_move rfl rfl) ?_
            refine ol_pure rfl rfl rfl (pure_move rfl rfl) ?_
            refine ol_pure rfl rfl rfl (pure_move rfl rfl) ?_
            first | refine ol_pure rfl rfl rfl (pure_indexn rfl Try.underlying24 sz48 rfl rfl (by omega) (fun _ => rfl)) ?_ | refine ol_pure rfl rfl rfl (pure_indexm rfl Try.underlying24 sz48 rfl rfl (by omega) (fun _ => rfl)) ?_
            refine ol_pure rfl rfl rfl (pure_field rfl fd48_1 rfl) ?_
            refine ol_pure rfl rfl rfl (pure_load rfl ag3 rfl rfl) ?_
            refine ol_pure rfl rfl rfl (pure_lit rfl Try.underlying22 el3 rfl rfl rfl rfl hM0) ?_
            refine ol_step rfl (step_append rfl rfl rfl rfl Try.underlying22 el3 rfl rfl hM0 (src_pl rfl (one_len (by rfl))) (by first | (simp only [List.length_map, List.length_append, List.length_cons, List.length_nil, List.length_set, List.length_replicate, List.length_take, List.length_drop, List.length_range]; omega) | omega) (by first | (simp only [List.length_map, List.length_append, List.length_cons, List.length_nil, List.length_set, List.length_replicate, List.length_take, List.length_drop, List.length_range]; omega) | omega)) ?_
            refine ol_pure rfl rfl rfl (pure_assign rfl rfl) ?_
            refine ol_nil ?_
            refine blockQ_normal ?_
            refine blockQ_normal ?_
            refine seq_pick 66 [(0, _), (1, _), (2, _), (7, _), (8, _)] [(7, _)] rfl ⟨rfl, rfl, rfl, rfl, rfl, trivial⟩ ⟨rfl, trivial⟩ ?_
            refine code_ops _ rfl ?_
            refine ol_pure rfl rfl rfl (pure_move rfl rfl) ?_
            refine ol_pure rfl rfl rfl (pure_addi rfl rfl rfl (by omega)) ?_
            refine ol_pure rfl rfl rfl (pure_assign rfl rfl) ?_
            refine ol_nil ?_
            refine loop_next (n := 66) (l := [(0, _), (1, _), (2, _), (7, _), (8, _)]) (o' := [(7, _)]) rfl ⟨rfl, rfl, rfl, rfl, rfl, trivial⟩ ⟨rfl, trivial⟩ ?_   -- loop 1 end 3
            exact ⟨_, ⟨i + 1, rfl, by omega, by rw [take_succ (by omega), level_snoc _ _ _ _ (isL_true (by omega)) (by omega), List.map_append, List.map_singleton, lev]; rw [if_pos (by assumption)]; rfl⟩, by omega⟩
          · try simp only [decide_eq_true_eq, decide_eq_false_iff_not, Bool.not_eq_true', Bool.not_eq_false', Bool.and_eq_true, Bool.or_eq_true, Bool.and_eq_false_iff, List.length_map, Int.toNat_natCast] at h4
            refine code_seq ?_
            refine code_ops _ rfl ?_
            refine ol_pure rfl rfl rfl (pure_eql rfl rfl rfl) ?_
            refine ol_pure rfl rfl rfl (pure_assign rfl rfl) ?_
            refine ol_nil ?_
            refine seq_pick 66 [(0, _), (1, _), (2, _), (7, _), (8, _), (9, _), (28, _), (39, _)] [(7, _)] rfl ⟨rfl, rfl, rfl, rfl, rfl, rfl, rfl, rfl, trivial⟩ ⟨rfl, trivial⟩ ?_
            refine code_cond rfl (fun h5 => ?_) (fun h5 => ?_)
            · try simp only [decide_eq_true_eq, decide_eq_false_iff_not, Bool.not_eq_true', Bool.not_eq_false', Bool.and_eq_true, Bool.or_eq_true, Bool.and_eq_false_iff, List.length_map, Int.toNat_natCast] at h5
              refine code_ops _ rfl ?_
              refine ol_pure rfl rfl rfl (pure_move rfl rfl) ?_
              refine ol_pure rfl rfl rfl (pure_move rfl rfl) ?_
              refine ol_pure rfl rfl rfl (pure_move rfl rfl) ?_
              first | refine ol_pure rfl rfl rfl (pure_indexn rfl Try.underlying24 sz48 rfl rfl (by omega) (fun _ => rfl)) ?_ | refine ol_pure rfl rfl rfl (pure_indexm rfl Try.underlying24 sz48 rfl rfl (by omega) (fun _ => rfl)) ?_
              refine ol_pure rfl rfl rfl (pure_field rfl fd48_2 rfl) ?_
              refine ol_pure rfl rfl rfl (pure_load rfl ag3 rfl rfl) ?_
              refine ol_pure rfl rfl rfl (pure_lit rfl Try.underlying22 el3 rfl rfl rfl rfl hM0) ?_
              refine ol_step rfl (step_append rfl rfl rfl rfl Try.underlying22 el3 rfl rfl hM0 (src_pl rfl (one_len (by rfl))) (by first | (simp only [List.length_map, List.length_append, List.length_cons, List.length_nil, List.length_set, List.length_replicate, List.length_take, List.length_drop, List.length_range]; omega) | omega) (by first | (simp only [List.length_map, List.length_append, List.length_cons, List.length_nil, List.length_set, List.length_replicate, List.length_take, List.length_drop, List.length_range]; omega) | omega)) ?_
              refine ol_pure rfl rfl rfl (pure_assign rfl rfl) ?_
              refine ol_nil ?_
              refine blockQ_normal ?_
              refine blockQ_normal ?_
              refine seq_pick 66 [(0, _), (1, _), (2, _), (7, _), (8, _)] [(7, _)] rfl ⟨rfl, rfl, rfl, rfl, rfl, trivial⟩ ⟨rfl, trivial⟩ ?_
              refine code_ops _ rfl ?_
              refine ol_pure rfl rfl rfl (pure_move rfl rfl) ?_
              refine ol_pure rfl rfl rfl (pure_addi rfl rfl rfl (by omega)) ?_
              refine ol_pure rfl rfl rfl (pure_assign rfl rfl) ?_
              refine ol_nil ?_
              refine loop_next (n := 66) (l := [(0, _), (1, _), (2, _), (7, _), (8, _)]) (o' := [(7, _)]) rfl ⟨rfl, rfl, rfl, rfl, rfl, trivial⟩ ⟨rfl, trivial⟩ ?_   -- loop 1 end 4
              exact ⟨_, ⟨i + 1, rfl, by omega, by rw [take_succ (by omega), level_snoc _ _ _ _ (isL_true (by omega)) (by omega), List.map_append, List.map_singleton, lev]; rw [if_neg (by assumption), if_pos (by assumption)]; rfl⟩, by omega⟩
            · try simp only [decide_eq_true_eq, decide_eq_false_iff_not, Bool.not_eq_true', Bool.not_eq_false', Bool.and_eq_true, Bool.or_eq_true, Bool.and_eq_false_iff, List.length_map, Int.toNat_natCast] at h5
              refine code_seq ?_
              refine code_ops _ rfl ?_
              refine ol_pure rfl rfl rfl (pure_eql rfl rfl rfl) ?_
              refine ol_pure rfl rfl rfl (pure_assign rfl rfl) ?_
              refine ol_nil ?_
              refine seq_pick 66 [(0, _), (1, _), (2, _), (7, _), (8, _), (9, _), (28, _), (49, _)] [(7, _)] rfl ⟨rfl, rfl, rfl, rfl, rfl, rfl, rfl, rfl, trivial⟩ ⟨rfl, trivial⟩ ?_
              refine code_cond rfl (fun h6 => ?_) (fun h6 => ?_)
              · try simp only [decide_eq_true_eq, decide_eq_false_iff_not, Bool.not_eq_true', Bool.not_eq_false', Bool.and_eq_true, Bool.or_eq_true, Bool.and_eq_false_iff, List.length_map, Int.toNat_natCast] at h6
                refine code_ops _ rfl ?_
                refine ol_pure rfl rfl rfl (pure_move rfl rfl) ?_
                refine ol_pure rfl rfl rfl (pure_move rfl rfl) ?_
                refine ol_pure rfl rfl rfl (pure_move rfl rfl) ?_
                first | refine ol_pure rfl rfl rfl (pure_indexn rfl Try.underlying24 sz48 rfl rfl (by omega) (fun _ => rfl)) ?_ | refine ol_pure rfl rfl rfl (pure_indexm rfl Try.underlying24 sz48 rfl rfl (by omega) (fun _ => rfl)) ?_
                refine ol_pure rfl rfl rfl (pure_field rfl fd48_3 rfl) ?_
                refine ol_pure rfl rfl rfl (pure_load rfl ag3 rfl rfl) ?_
                refine ol_pure rfl rfl rfl (pure_lit rfl Try.underlying22 el3 rfl rfl rfl rfl hM0) ?_
                refine ol_step rfl (step_append rfl rfl rfl rfl Try.underlying22 el3 rfl rfl hM0 (src_pl rfl (one_len (by rfl))) (by first | (simp only [List.length_map, List.length_append, List.length_cons, List.length_nil, List.length_set, List.length_replicate, List.length_take, List.length_drop, List.length_range]; omega) | omega) (by first | (simp only [List.length_map, List.length_append, List.length_cons, List.length_nil, List.length_set, List.length_replicate, List.length_take, List.length_drop, List.length_range]; omega) | omega)) ?_
                refine ol_pure rfl rfl rfl (pure_assign rfl rfl) ?_
                refine ol_nil ?_
                refine blockQ_normal ?_
                refine blockQ_normal ?_
                refine seq_pick 66 [(0, _), (1, _), (2, _), (7, _), (8, _)] [(7, _)] rfl ⟨rfl, rfl, rfl, rfl, rfl, trivial⟩ ⟨rfl, trivial⟩ ?_
                refine code_ops _ rfl ?_
                refine ol_pure rfl rfl rfl (pure_move rfl rfl) ?_
                refine ol_pure rfl rfl rfl (pure_addi rfl rfl rfl (by omega)) ?_
                refine ol_pure rfl rfl rfl (pure_assign rfl rfl) ?_
                refine ol_nil ?_
                refine loop_next (n := 66) (l := [(0, _), (1, _), (2, _), (7, _), (8, _)]) (o' := [(7, _)]) rfl ⟨rfl, rfl, rfl, rfl, rfl, trivial⟩ ⟨rfl, trivial⟩ ?_   -- loop 1 end 5
                exact ⟨_, ⟨i + 1, rfl, by omega, by rw [take_succ (by omega), level_snoc _ _ _ _ (isL_true (by omega)) (by omega), List.map_append, List.map_singleton, lev]; rw [if_neg (by assumption), if_neg (by assumption), if_pos (by assumption)]; rfl⟩, by omega⟩
              · try simp only [decide_eq_true_eq, decide_eq_false_iff_not, Bool.not_eq_true', Bool.not_eq_false', Bool.and_eq_true, Bool.or_eq_true, Bool.and_eq_false_iff, List.length_map, Int.toNat_natCast] at h6
                refine code_seq ?_
                refine code_ops _ rfl ?_
                refine ol_pure rfl rfl rfl (pure_eql rfl rfl rfl) ?_
                refine ol_pure rfl rfl rfl (pure_assign rfl rfl) ?_
                refine ol_nil ?_
                refine seq_pick 66 [(0, _), (1, _), (2, _), (7, _), (8, _), (9, _), (59, _)] [(7, _)] rfl ⟨rfl, rfl, rfl, rfl, rfl, rfl, rfl, trivial⟩ ⟨rfl, trivial⟩ ?_
                refine code_cond rfl (fun h7 => ?_) (fun h7 => ?_)
                · try simp only [decide_eq_true_eq, decide_eq_false_iff_not, Bool.not_eq_true', Bool.not_eq_false', Bool.and_eq_true, Bool.or_eq_true, Bool.and_eq_false_iff, List.length_map, Int.toNat_natCast] at h7
                  refine code_ops _ rfl ?_
                  refine ol_pure rfl rfl rfl (pure_move rfl rfl) ?_
                  refine ol_pure rfl rfl rfl (pure_move rfl rfl) ?_
                  refine ol_pure rfl rfl rfl (pure_lit rfl Try.underlying22 el3 rfl rfl rfl rfl hM0) ?_
                  refine ol_step rfl (step_append rfl rfl rfl rfl Try.underlying22 el3 rfl rfl hM0 (src_pl rfl (one_len (by rfl))) (by first | (simp only [List.length_map, List.length_append, List.length_cons, List.length_nil, List.length_set, List.length_replicate, List.length_take, List.length_drop, List.length_range]; omega) | omega) (by first | (simp only [List.length_map, List.length_append, List.length_cons, List.length_nil, List.length_set, List.length_replicate, List.length_take, List.length_drop, List.length_range]; omega) | omega)) ?_
                  refine ol_pure rfl rfl rfl (pure_assign rfl rfl) ?_
                  refine ol_nil ?_
                  refine blockQ_normal ?_
                  refine blockQ_normal ?_
                  refine seq_pick 66 [(0, _), (1, _), (2, _), (7, _), (8, _)] [(7, _)] rfl ⟨rfl, rfl, rfl, rfl, rfl, trivial⟩ ⟨rfl, trivial⟩ ?_
                  refine code_ops _ rfl ?_
                  refine ol_pure rfl rfl rfl (pure_move rfl rfl) ?_
                  refine ol_pure rfl rfl rfl (pure_addi rfl rfl rfl (by omega)) ?_
                  refine ol_pure rfl rfl rfl (pure_assign rfl rfl) ?_
                  refine ol_nil ?_
                  refine loop_next (n := 66) (l := [(0, _), (1, _), (2, _), (7, _), (8, _)]) (o' := [(7, _)]) rfl ⟨rfl, rfl, rfl, rfl, rfl, trivial⟩ ⟨rfl, trivial⟩ ?_   -- loop 1 end 6
                  exact ⟨_, ⟨i + 1, rfl, by omega, by rw [take_succ (by omega), level_snoc _ _ _ _ (isL_true (by omega)) (by omega), List.map_append, List.map_singleton, lev]; rw [if_neg (by assumption), if_neg (by assumption), if_neg (by assumption)]; rfl⟩, by omega⟩
                · try simp only [decide_eq_true_eq, decide_eq_false_iff_not, Bool.not_eq_true', Bool.not_eq_false', Bool.and_eq_true, Bool.or_eq_true, Bool.and_eq_false_iff, List.length_map, Int.toNat_natCast] at h7
                  refine code_skip ?_
                  refine blockQ_normal ?_
                  refine blockQ_normal ?_
                  refine seq_pick 66 [(0, _), (1, _), (2, _), (7, _), (8, _)] [(7, _)] rfl ⟨rfl, rfl, rfl, rfl, rfl, trivial⟩ ⟨rfl, trivial⟩ ?_
                  refine code_ops _ rfl ?_
                  refine ol_pure rfl rfl rfl (pure_move rfl rfl) ?_
                  refine ol_pure rfl rfl rfl (pure_addi rfl rfl rfl (by omega)) ?_
                  refine ol_pure rfl rfl rfl (pure_assign rfl rfl) ?_
                  refine ol_nil ?_
                  refine loop_next (n := 66) (l := [(0, _), (1, _), (2, _), (7, _), (8, _)]) (o' := [(7, _)]) rfl ⟨rfl, rfl, rfl, rfl, rfl, trivial⟩ ⟨rfl, trivial⟩ ?_   -- loop 1 end 7
                  exact ⟨_, ⟨i + 1, rfl, by omega, by rw [level_none _ _ _ (by omega), level_none _ _ _ (by omega)]; rfl⟩, by omega⟩
    · try simp only [decide_eq_true_eq, decide_eq_false_iff_not, Bool.not_eq_true', Bool.not_eq_false', Bool.and_eq_true, Bool.or_eq_true, Bool.and_eq_false_iff, List.length_map, Int.toNat_natCast] at h1
      refine code_exit ?_
      refine seqQ_exit ?_
      refine loopM_exit ?_
      refine blockQ_same ?_
      refine seq_pick 66 [(7, _)] [(7, _)] rfl ⟨rfl, trivial⟩ ⟨rfl, trivial⟩ ?_
      refine code_seq ?_
      refine code_ops _ rfl ?_
      refine ol_pure rfl rfl rfl (pure_move rfl rfl) ?_
      refine ol_pure rfl rfl rfl (pure_assign rfl rfl) ?_
      refine ol_nil ?_
      refine seq_pick 66 [(6, _)] [(7, _)] rfl ⟨rfl, trivial⟩ ⟨rfl, trivial⟩ ?_
      refine code_ret ?_
      refine end_ret rfl ?_   -- end 1
      rw [List.take_of_length_le (by omega)]
end Go.Proofs.Ytcimmcjnkphagaa
