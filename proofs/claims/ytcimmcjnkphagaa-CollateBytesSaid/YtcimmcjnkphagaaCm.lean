/-
  Contracts of the given words.
-/
import Derived.Test.YtcimmcjnkphagaaCa
import Derived.Test.YtcimmcjnkphagaaTy
import Derived.Test.YtcimmcjnkphagaaPi
namespace Go.Proofs.Ytcimmcjnkphagaa
open Go.Am Go.Wb
set_option linter.unusedVariables false
set_option linter.unusedSimpArgs false
theorem fn41 : Fn1 Try.prog 41 Try.f41.ntmps 6 (Try.f41.body.getD .skip) := ⟨Try.f41, Try.func41, rfl, rfl, rfl, by kernel_rfl⟩
set_option maxRecDepth 100000 in
set_option maxHeartbeats 2000000 in
theorem sister_call {a : List Letter} {x src : Int} (ha : a.length ≤ 1099511627776) (hs : 0 ≤ src ∧ src ≤ 1099511627776) : CallF Try.prog 41 [letters a, int x, int src] (.p (int (sister a x src))) := by
  refine callF_of_code fn41 (Nat.le_of_ble_eq_true rfl) fun w0 M0 hM0 => ?_
  refine code_seq ?_
  refine code_ops _ rfl ?_
  refine ol_pure rfl rfl rfl (pure_assign rfl rfl) ?_
  refine ol_nil ?_
  refine seq_pick 43 [(0, _), (1, _), (2, _)] [] rfl ⟨rfl, rfl, rfl, trivial⟩ trivial ?_
  refine code_seq ?_
  refine code_seq ?_
  refine code_ops _ rfl ?_
  refine ol_pure rfl rfl rfl (pure_move rfl rfl) ?_
  refine ol_pure rfl rfl rfl (pure_lss rfl rfl rfl) ?_
  refine ol_pure rfl rfl rfl (pure_move rfl rfl) ?_
  refine ol_guard rfl (fun h1 => ?_) (fun h1 => ?_)
  · have h1' := h1; try simp only [decide_eq_true_eq, decide_eq_false_iff_not, Bool.not_eq_true', Bool.not_eq_false', Bool.and_eq_true, Bool.or_eq_true, Bool.and_eq_false_iff, List.length_map, Int.toNat_natCast] at h1'
    refine ol_skip_g rfl rfl h1 rfl rfl ?_
    refine ol_skip_g rfl rfl h1 rfl rfl ?_
    refine ol_skip_g rfl rfl h1 rfl rfl ?_
    refine ol_skip_g rfl rfl h1 rfl rfl ?_
    refine ol_pure rfl rfl rfl (pure_pick_t rfl rfl h1 rfl) ?_
    refine ol_nil ?_
    refine seq_pick 43 [(0, _), (1, _), (2, _), (16, _)] [] rfl ⟨rfl, rfl, rfl, rfl, trivial⟩ trivial ?_
    refine code_cond_t rfl ?_
    refine code_seq ?_
    refine code_ops _ rfl ?_
    refine ol_pure rfl rfl rfl (pure_move rfl rfl) ?_
    refine ol_pure rfl rfl rfl (pure_assign rfl rfl) ?_
    refine ol_nil ?_
    refine seq_pick 43 [(6, _)] [] rfl ⟨rfl, trivial⟩ trivial ?_
    refine code_ret ?_
    refine seqQ_ret ?_
    refine end_ret rfl ?_   -- end 1
    rw [sister_out (isL_false (by omega))]
  · have h1' := h1; try simp only [decide_eq_true_eq, decide_eq_false_iff_not, Bool.not_eq_true', Bool.not_eq_false', Bool.and_eq_true, Bool.or_eq_true, Bool.and_eq_false_iff, List.length_map, Int.toNat_natCast] at h1'
    refine ol_pure_g rfl rfl h1 rfl rfl (pure_move rfl rfl) ?_
    refine ol_pure_g rfl rfl h1 rfl rfl (pure_move rfl rfl) ?_
    refine ol_pure_g rfl rfl h1 rfl rfl (pure_lenm rfl Try.underlying24 rfl) ?_
    refine ol_pure_g rfl rfl h1 rfl rfl (pure_geq rfl rfl rfl) ?_
    refine ol_pure rfl rfl rfl (pure_pick_f rfl rfl h1 rfl) ?_
    refine ol_nil ?_
    refine seq_pick 43 [(0, _), (1, _), (2, _), (16, _)] [] rfl ⟨rfl, rfl, rfl, rfl, trivial⟩ trivial ?_
    refine code_cond rfl (fun h2 => ?_) (fun h2 => ?_)
    · try simp only [decide_eq_true_eq, decide_eq_false_iff_not, Bool.not_eq_true', Bool.not_eq_false', Bool.and_eq_true, Bool.or_eq_true, Bool.and_eq_false_iff, List.length_map, Int.toNat_natCast] at h2
      refine code_seq ?_
      refine code_ops _ rfl ?_
      refine ol_pure rfl rfl rfl (pure_move rfl rfl) ?_
      refine ol_pure rfl rfl rfl (pure_assign rfl rfl) ?_
      refine ol_nil ?_
      refine seq_pick 43 [(6, _)] [] rfl ⟨rfl, trivial⟩ trivial ?_
      refine code_ret ?_
      refine seqQ_ret ?_
      refine end_ret rfl ?_   -- end 2
      rw [sister_out (isL_false (by omega))]
    · try simp only [decide_eq_true_eq, decide_eq_false_iff_not, Bool.not_eq_true', Bool.not_eq_false', Bool.and_eq_true, Bool.or_eq_true, Bool.and_eq_false_iff, List.length_map, Int.toNat_natCast] at h2
      have hx : isL a x = true := isL_true (by omega)
      have hpos : (0 : Int) < a.length := by omega
      refine code_skip ?_
      refine seq_pick 43 [(0, _), (1, _), (2, _)] [] rfl ⟨rfl, rfl, rfl, trivial⟩ trivial ?_
      refine code_seq ?_
      refine code_seq ?_
      refine code_ops _ rfl ?_
      refine ol_pure rfl rfl rfl (pure_assign rfl rfl) ?_
      refine ol_nil ?_
      refine seq_pick 43 [(0, _), (1, _), (2, _), (7, _)] [] rfl ⟨rfl, rfl, rfl, rfl, trivial⟩ trivial ?_
      refine code_block ?_
      refine code_loopM (fun zm zs => ∃ i : Nat, zm = a.length - i ∧ (i ≤ a.length) ∧ (∀ j, j < i → sisB a x src j = false) ∧ zs = ⟨43, [(0, .v .mx (letters a)), (1, .v .mx (int x)), (2, .v .mx (int src)), (7, .v .pl (int i))], []⟩) (loop_init (n := 43) (l := [(0, _), (1, _), (2, _), (7, _)]) (o' := []) rfl ⟨rfl, rfl, rfl, rfl, trivial⟩ trivial ?_) ?_
      · exact ⟨_, 0, rfl, Nat.zero_le _, fun j hj => absurd hj (by omega), rfl⟩
      · rintro zm zs ⟨i, rfl, hL1_0, hL1_1, rfl⟩
        refine code_seq ?_
        refine code_seq ?_
        refine code_ops _ rfl ?_
        refine ol_pure rfl rfl rfl (pure_move rfl rfl) ?_
        refine ol_pure rfl rfl rfl (pure_move rfl rfl) ?_
        refine ol_pure rfl rfl rfl (pure_lenm rfl Try.underlying24 rfl) ?_
        refine ol_pure rfl rfl rfl (pure_lss rfl rfl rfl) ?_
        refine ol_nil ?_
        refine seq_pick 43 [(0, _), (1, _), (2, _), (7, _), (21, _)] [] rfl ⟨rfl, rfl, rfl, rfl, rfl, trivial⟩ trivial ?_
        refine code_cond rfl (fun h3 => ?_) (fun h3 => ?_)
        · try simp only [decide_eq_true_eq, decide_eq_false_iff_not, Bool.not_eq_true', Bool.not_eq_false', Bool.and_eq_true, Bool.or_eq_true, Bool.and_eq_false_iff, List.length_map, Int.toNat_natCast] at h3
          refine code_skip ?_
          refine seq_pick 43 [(0, _), (1, _), (2, _), (7, _)] [] rfl ⟨rfl, rfl, rfl, rfl, trivial⟩ trivial ?_
          refine code_seq ?_
          refine code_block ?_
          refine code_seq ?_
          refine code_ops _ rfl ?_
          refine ol_pure rfl rfl rfl (pure_move rfl rfl) ?_
          refine ol_pure rfl rfl rfl (pure_move rfl rfl) ?_
          refine ol_pure rfl rfl rfl (pure_addi rfl rfl rfl (by omega)) ?_
          refine ol_pure rfl rfl rfl (pure_move rfl rfl) ?_
          refine ol_pure rfl rfl rfl (pure_lenm rfl Try.underlying24 rfl) ?_
          refine ol_pure rfl rfl rfl (pure_remn rfl rfl rfl (by omega)) ?_
          refine ol_pure rfl rfl rfl (pure_assign rfl rfl) ?_
          refine ol_nil ?_
          refine seq_pick 43 [(0, _), (1, _), (2, _), (7, _), (8, _)] [] rfl ⟨rfl, rfl, rfl, rfl, rfl, trivial⟩ trivial ?_
          refine code_seq ?_
          refine code_draw mixed (by kernel_rfl) _ rfl ?_
          refine dl_pure rfl rfl rfl (pure_move rfl rfl) ?_
          refine dl_pure rfl rfl rfl (pure_move rfl rfl) ?_
          first | refine dl_pure rfl rfl rfl (pure_indexn rfl Try.underlying24 sz48 rfl rfl (by have := Int.emod_nonneg (src + i) (show (a.length : Int) ≠ 0 by omega); have := Int.emod_lt_of_pos (src + i) hpos; omega) (fun _ => rfl)) ?_ | refine dl_pure rfl rfl rfl (pure_indexm rfl Try.underlying24 sz48 rfl rfl (by have := Int.emod_nonneg (src + i) (show (a.length : Int) ≠ 0 by omega); have := Int.emod_lt_of_pos (src + i) hpos; omega) (fun _ => rfl)) ?_
          refine dl_pure rfl rfl rfl (pure_field rfl fd48_1 rfl) ?_
          refine dl_pure rfl rfl rfl (pure_load rfl ag3 rfl rfl) ?_
          refine dl_pure rfl rfl rfl (pure_move rfl rfl) ?_
          refine dl_pure rfl rfl rfl (pure_move rfl rfl) ?_
          refine dl_pick 43 [(0, _), (1, _), (2, _), (7, _), (8, _), (34, _), (35, _), (36, _)] [] rfl rfl ⟨rfl, rfl, rfl, rfl, rfl, rfl, rfl, rfl, trivial⟩ ?_
          first | refine dl_pure rfl rfl rfl (pure_indexn rfl Try.underlying24 sz48 rfl rfl (by omega) (fun _ => rfl)) ?_ | refine dl_pure rfl rfl rfl (pure_indexm rfl Try.underlying24 sz48 rfl rfl (by omega) (fun _ => rfl)) ?_
          refine dl_pure rfl rfl rfl (pure_field rfl fd48_1 rfl) ?_
          refine dl_pure rfl rfl rfl (pure_load rfl ag3 rfl rfl) ?_
          refine dl_pure rfl rfl rfl (pure_eql rfl rfl rfl) ?_
          refine dl_nil ?_
          refine seq_pick 43 [(0, _), (1, _), (2, _), (7, _), (8, _), (40, _)] [] rfl ⟨rfl, rfl, rfl, rfl, rfl, rfl, trivial⟩ trivial ?_
          refine code_cond rfl (fun h4 => ?_) (fun h4 => ?_)
          · try simp only [decide_eq_true_eq, decide_eq_false_iff_not, Bool.not_eq_true', Bool.not_eq_false', Bool.and_eq_true, Bool.or_eq_true, Bool.and_eq_false_iff, List.length_map, Int.toNat_natCast] at h4
            refine code_seq ?_
            refine code_ops _ rfl ?_
            refine ol_pure rfl rfl rfl (pure_move rfl rfl) ?_
            refine ol_pure rfl rfl rfl (pure_assign rfl rfl) ?_
            refine ol_nil ?_
            refine seq_pick 43 [(6, _)] [] rfl ⟨rfl, trivial⟩ trivial ?_
            refine code_ret ?_
            refine blockQ_ret ?_
            refine seqQ_ret ?_
            refine loopM_ret ?_
            refine blockQ_ret ?_
            refine seqQ_ret ?_
            refine end_ret rfl ?_   -- end 3
            rw [sister_hit hx (by omega) hL1_1 (decide_eq_true (by assumption))]
          · try simp only [decide_eq_true_eq, decide_eq_false_iff_not, Bool.not_eq_true', Bool.not_eq_false', Bool.and_eq_true, Bool.or_eq_true, Bool.and_eq_false_iff, List.length_map, Int.toNat_natCast] at h4
            refine code_skip ?_
            refine blockQ_normal ?_
            refine seq_pick 43 [(0, _), (1, _), (2, _), (7, _)] [] rfl ⟨rfl, rfl, rfl, rfl, trivial⟩ trivial ?_
            refine code_ops _ rfl ?_
            refine ol_pure rfl rfl rfl (pure_move rfl rfl) ?_
            refine ol_pure rfl rfl rfl (pure_addi rfl rfl rfl (by omega)) ?_
            refine ol_pure rfl rfl rfl (pure_assign rfl rfl) ?_
            refine ol_nil ?_
            refine loop_next (n := 43) (l := [(0, _), (1, _), (2, _), (7, _)]) (o' := []) rfl ⟨rfl, rfl, rfl, rfl, trivial⟩ trivial ?_   -- loop 1 end 1
            exact ⟨_, ⟨i + 1, rfl, by omega, lt_step hL1_1 (decide_eq_false (by assumption)), rfl⟩, by omega⟩
        · try simp only [decide_eq_true_eq, decide_eq_false_iff_not, Bool.not_eq_true', Bool.not_eq_false', Bool.and_eq_true, Bool.or_eq_true, Bool.and_eq_false_iff, List.length_map, Int.toNat_natCast] at h3
          refine code_exit ?_
          refine seqQ_exit ?_
          refine loopM_exit ?_
          refine blockQ_same ?_
          refine seq_pick 43 [(1, _)] [] rfl ⟨rfl, trivial⟩ trivial ?_
          refine code_seq ?_
          refine code_ops _ rfl ?_
          refine ol_pure rfl rfl rfl (pure_move rfl rfl) ?_
          refine ol_pure rfl rfl rfl (pure_assign rfl rfl) ?_
          refine ol_nil ?_
          refine seq_pick 43 [(6, _)] [] rfl ⟨rfl, trivial⟩ trivial ?_
          refine code_ret ?_
          refine end_ret rfl ?_   -- end 4
          rw [sister_none hx (by omega) hL1_1]
theorem fn15 : Fn1 Try.prog 15 Try.f15.ntmps 6 (Try.f15.body.getD .skip) := ⟨Try.f15, Try.func15, rfl, rfl, rfl, by kernel_rfl⟩
set_option maxRecDepth 100000 in
set_option maxHeartbeats 4000000 in
theorem words_call {a : List Letter} {l : List Int} {many : Int} (ha : a.length ≤ 1099511627776) (ha0 : 0 < a.length) (hl : l.length ≤ 9223372036854775807) (hm : many ≤ 1000) :
    CallF Try.prog 15 [letters a, ints l, int many] (.fresh 22 ((wordsP a l many).map ints)) := by
  refine callF_of_code fn15 (Nat.le_of_ble_eq_true rfl) fun w0 M0 hM0 => ?_
  refine code_seq ?_
  refine code_ops _ rfl ?_
  refine ol_step rfl (step_nil rfl rfl rfl rfl rfl 22 hM0) ?_
  refine ol_nil ?_
  refine seq_pick 102 [(0, _), (1, _), (2, _)] [] rfl ⟨rfl, rfl, rfl, trivial⟩ trivial ?_
  refine code_seq ?_
  refine code_ops _ rfl ?_
  refine ol_step rfl (step_nil rfl rfl rfl rfl rfl 22 hM0) ?_
  refine ol_nil ?_
  refine seq_pick 102 [(0, _), (1, _), (2, _), (7, _)] [(7, _)] rfl ⟨rfl, rfl, rfl, rfl, trivial⟩ ⟨rfl, trivial⟩ ?_
  refine code_seq ?_
  refine code_seq ?_
  refine code_ops _ rfl ?_
  refine ol_pure rfl rfl rfl (pure_assign rfl rfl) ?_
  refine ol_nil ?_
  refine seq_pick 102 [(0, _), (1, _), (2, _), (7, _), (8, _)] [(7, _)] rfl ⟨rfl, rfl, rfl, rfl, rfl, trivial⟩ ⟨rfl, trivial⟩ ?_
  refine code_block ?_
  refine code_loopM (fun zm zs => ∃ i : Nat, zm = many.toNat - i ∧ (i ≤ many.toNat ∨ i = 0) ∧ zs = ⟨102, [(0, .v .mx (letters a)), (1, .v .mx (ints l)), (2, .v .mx (int many)), (7, .own 7), (8, .v .pl (int i))], [(7, .arr 22 ((wordsN a l i).map ints))]⟩) (loop_init (n := 102) (l := [(0, _), (1, _), (2, _), (7, _), (8, _)]) (o' := [(7, _)]) rfl ⟨rfl, rfl, rfl, rfl, rfl, trivial⟩ ⟨rfl, trivial⟩ ?_) ?_
  · exact ⟨_, 0, rfl, .inr rfl, rfl⟩
  · rintro zm zs ⟨i, rfl, hL1_0, rfl⟩
    refine code_seq ?_
    refine code_seq ?_
    refine code_ops _ rfl ?_
    refine ol_pure rfl rfl rfl (pure_move rfl rfl) ?_
    refine ol_pure rfl rfl rfl (pure_move rfl rfl) ?_
    refine ol_pure rfl rfl rfl (pure_lss rfl rfl rfl) ?_
    refine ol_nil ?_
    refine seq_pick 102 [(0, _), (1, _), (2, _), (7, _), (8, _), (19, _)] [(7, _)] rfl ⟨rfl, rfl, rfl, rfl, rfl, rfl, trivial⟩ ⟨rfl, trivial⟩ ?_
    refine code_cond rfl (fun h1 => ?_) (fun h1 => ?_)
    · try simp only [decide_eq_true_eq, decide_eq_false_iff_not, Bool.not_eq_true', Bool.not_eq_false', Bool.and_eq_true, Bool.or_eq_true, Bool.and_eq_false_iff, List.length_map, Int.toNat_natCast] at h1
      refine code_skip ?_
      refine seq_pick 102 [(0, _), (1, _), (2, _), (7, _), (8, _)] [(7, _)] rfl ⟨rfl, rfl, rfl, rfl, rfl, trivial⟩ ⟨rfl, trivial⟩ ?_
      refine code_seq ?_
      refine code_block ?_
      refine code_seq ?_
      refine code_ops _ rfl ?_
      refine ol_step rfl (step_nil rfl rfl rfl rfl rfl 3 hM0) ?_
      refine ol_nil ?_
      refine seq_pick 102 [(0, _), (1, _), (2, _), (7, _), (8, _), (9, _)] [(7, _), (9, _)] rfl ⟨rfl, rfl, rfl, rfl, rfl, rfl, trivial⟩ ⟨rfl, rfl, trivial⟩ ?_
      refine code_cut (fun zs => zs = ⟨102, [(0, .v .mx (letters a)), (1, .v .mx (ints l)), (2, .v .mx (int many)), (7, .own 7), (8, .v .pl (int i)), (9, .own 9)], [(7, .arr 22 ((wordsN a l i).map ints)), (9, .arr 3 ((wI a l i ((wordsN a l i).getD (i - 1) default)).map int))]⟩) ?_ ?_
      · skip
        refine code_seq ?_
        refine code_ops _ rfl ?_
        refine ol_pure rfl rfl rfl (pure_move rfl rfl) ?_
        refine ol_pure rfl rfl rfl (pure_gtr rfl rfl rfl) ?_
        refine ol_nil ?_
        refine seq_pick 102 [(0, _), (1, _), (2, _), (7, _), (8, _), (9, _), (23, _)] [(7, _), (9, _)] rfl ⟨rfl, rfl, rfl, rfl, rfl, rfl, rfl, trivial⟩ ⟨rfl, rfl, trivial⟩ ?_
        refine code_cond rfl (fun h2 => ?_) (fun h2 => ?_)
        · try simp only [decide_eq_true_eq, decide_eq_false_iff_not, Bool.not_eq_true', Bool.not_eq_false', Bool.and_eq_true, Bool.or_eq_true, Bool.and_eq_false_iff, List.length_map, Int.toNat_natCast] at h2
          refine code_seq ?_
          refine code_ops _ rfl ?_
          refine ol_pure rfl rfl rfl (pure_move rfl rfl) ?_
          refine ol_pure rfl rfl rfl (pure_move rfl rfl) ?_
          refine ol_pure rfl rfl rfl (pure_subi rfl rfl rfl (by omega)) ?_
          refine ol_pure rfl rfl rfl (pure_index_own rfl Try.underlying23 sz22 rfl rfl rfl (by simp only [List.length_map]; have := wordsN_len a l i; omega)) ?_
          refine ol_pure rfl rfl rfl (pure_load_pel rfl ag22 rfl rfl (mget (by have := wordsN_len a l i; omega)) rfl) ?_
          refine ol_pure rfl rfl rfl (pure_assign rfl rfl) ?_
          refine ol_nil ?_
          refine seq_pick 102 [(0, _), (1, _), (2, _), (7, _), (8, _), (9, _), (10, _)] [(7, _), (9, _)] rfl ⟨rfl, rfl, rfl, rfl, rfl, rfl, rfl, trivial⟩ ⟨rfl, rfl, trivial⟩ ?_
          refine code_seq ?_
          refine code_ops _ rfl ?_
          refine ol_pure rfl rfl rfl (pure_assign rfl rfl) ?_
          refine ol_nil ?_
          refine seq_pick 102 [(0, _), (1, _), (2, _), (7, _), (8, _), (9, _), (10, _), (11, _)] [(7, _), (9, _)] rfl ⟨rfl, rfl, rfl, rfl, rfl, rfl, rfl, rfl, trivial⟩ ⟨rfl, rfl, trivial⟩ ?_
          refine code_block ?_
          refine code_loopM (fun zm zs => ∃ k : Nat, zm = ((wordsN a l i).getD (i - 1) default).length - k ∧ (k ≤ ((wordsN a l i).getD (i - 1) default).length) ∧ zs = ⟨102, [(0, .v .mx (letters a)), (1, .v .mx (ints l)), (2, .v .mx (int many)), (7, .own 7), (8, .v .pl (int i)), (9, .own 9), (10, .v .pl (ints ((wordsN a l i).getD (i - 1) default))), (11, .v .pl (int k))], [(7, .arr 22 ((wordsN a l i).map ints)), (9, .arr 3 ((wA a l i ((wordsN a l i).getD (i - 1) default) k).map int))]⟩) (loop_init (n := 102) (l := [(0, _), (1, _), (2, _), (7, _), (8, _), (9, _), (10, _), (11, _)]) (o' := [(7, _), (9, _)]) rfl ⟨rfl, rfl, rfl, rfl, rfl, rfl, rfl, rfl, trivial⟩ ⟨rfl, rfl, trivial⟩ ?_) ?_
          · refine ⟨_, 0, rfl, Nat.zero_le _, ?_⟩
            rw [show (((i : Int) - 1).toNat) = i - 1 by omega]
            rfl
          · rintro zm zs ⟨k, rfl, hL2_0, rfl⟩
            have hla := wordsN_last a l i
            have hn0 := numL_bd (l := l) (i := 7 * i + k) (by omega)
            refine code_seq ?_
            refine code_seq ?_
            refine code_ops _ rfl ?_
            refine ol_pure rfl rfl rfl (pure_move rfl rfl) ?_
            refine ol_pure rfl rfl rfl (pure_move rfl rfl) ?_
            refine ol_pure rfl rfl rfl (pure_lenm rfl Try.underlying22 rfl) ?_
            refine ol_pure rfl rfl rfl (pure_lss rfl rfl rfl) ?_
            refine ol_nil ?_
            refine seq_pick 102 [(0, _), (1, _), (2, _), (7, _), (8, _), (9, _), (10, _), (11, _), (32, _)] [(7, _), (9, _)] rfl ⟨rfl, rfl, rfl, rfl, rfl, rfl, rfl, rfl, rfl, trivial⟩ ⟨rfl, rfl, trivial⟩ ?_
            refine code_cond rfl (fun h3 => ?_) (fun h3 => ?_)
            · try simp only [decide_eq_true_eq, decide_eq_false_iff_not, Bool.not_eq_true', Bool.not_eq_false', Bool.and_eq_true, Bool.or_eq_true, Bool.and_eq_false_iff, List.length_map, Int.toNat_natCast] at h3
              refine code_skip ?_
              refine seq_pick 102 [(0, _), (1, _), (2, _), (7, _), (8, _), (9, _), (10, _), (11, _)] [(7, _), (9, _)] rfl ⟨rfl, rfl, rfl, rfl, rfl, rfl, rfl, rfl, trivial⟩ ⟨rfl, rfl, trivial⟩ ?_
              refine code_seq ?_
              refine code_block ?_
              refine code_seq ?_
              refine code_ops _ rfl ?_
              refine ol_pure rfl rfl rfl (pure_move rfl rfl) ?_
              refine ol_pure rfl rfl rfl (pure_move rfl rfl) ?_
              first | refine ol_pure rfl rfl rfl (pure_indexn rfl Try.underlying22 sz3 rfl rfl (by omega) (fun _ => rfl)) ?_ | refine ol_pure rfl rfl rfl (pure_indexm rfl Try.underlying22 sz3 rfl rfl (by omega) (fun _ => rfl)) ?_
              refine ol_pure rfl rfl rfl (pure_load rfl ag3 rfl rfl) ?_
              refine ol_pure rfl rfl rfl (pure_assign rfl rfl) ?_
              refine ol_nil ?_
              refine seq_pick 102 [(0, _), (1, _), (2, _), (7, _), (8, _), (9, _), (10, _), (11, _), (12, _)] [(7, _), (9, _)] rfl ⟨rfl, rfl, rfl, rfl, rfl, rfl, rfl, rfl, rfl, trivial⟩ ⟨rfl, rfl, trivial⟩ ?_
              refine code_seq ?_
              refine code_ops _ rfl ?_
              refine ol_pure rfl rfl rfl (pure_move rfl rfl) ?_
              refine ol_pure rfl rfl rfl (pure_move rfl rfl) ?_
              refine ol_pure rfl rfl rfl (pure_muli rfl rfl rfl (by omega)) ?_
              refine ol_pure rfl rfl rfl (pure_move rfl rfl) ?_
              refine ol_pure rfl rfl rfl (pure_addi rfl rfl rfl (by omega)) ?_
              refine ol_pure rfl rfl rfl (pure_call rfl rfl rfl (num_call (by omega) (by omega)) hM0) ?_
              refine ol_pure rfl rfl rfl (pure_assign rfl rfl) ?_
              refine ol_nil ?_
              refine seq_pick 102 [(0, _), (1, _), (2, _), (7, _), (8, _), (9, _), (10, _), (11, _), (12, _), (13, _)] [(7, _), (9, _)] rfl ⟨rfl, rfl, rfl, rfl, rfl, rfl, rfl, rfl, rfl, rfl, trivial⟩ ⟨rfl, rfl, trivial⟩ ?_
              refine code_cut (fun zs => zs = ⟨102, [(0, .v .mx (letters a)), (1, .v .mx (ints l)), (2, .v .mx (int many)), (7, .own 7), (8, .v .pl (int i)), (9, .own 9), (10, .v .pl (ints ((wordsN a l i).getD (i - 1) default))), (11, .v .pl (int k)), (12, .v .pl (int (wX1 a l i ((wordsN a l i).getD (i - 1) default) k))), (13, .v .pl (int (numL l (7 * i + k))))], [(7, .arr 22 ((wordsN a l i).map ints)), (9, .arr 3 ((wA a l i ((wordsN a l i).getD (i - 1) default) k).map int))]⟩) ?_ ?_
              · skip
                refine code_seq ?_
                refine code_ops _ rfl ?_
                refine ol_pure rfl rfl rfl (pure_move rfl rfl) ?_
                refine ol_pure rfl rfl rfl (pure_remn rfl rfl rfl (by omega)) ?_
                refine ol_pure rfl rfl rfl (pure_eql rfl rfl rfl) ?_
                refine ol_nil ?_
                refine seq_pick 102 [(0, _), (1, _), (2, _), (7, _), (8, _), (9, _), (10, _), (11, _), (12, _), (13, _), (47, _)] [(7, _), (9, _)] rfl ⟨rfl, rfl, rfl, rfl, rfl, rfl, rfl, rfl, rfl, rfl, rfl, trivial⟩ ⟨rfl, rfl, trivial⟩ ?_
                refine code_cond rfl (fun h4 => ?_) (fun h4 => ?_)
                · try simp only [decide_eq_true_eq, decide_eq_false_iff_not, Bool.not_eq_true', Bool.not_eq_false', Bool.and_eq_true, Bool.or_eq_true, Bool.and_eq_false_iff, List.length_map, Int.toNat_natCast] at h4
                  refine code_ops _ rfl ?_
                  refine ol_pure rfl rfl rfl (pure_move rfl rfl) ?_
                  refine ol_pure rfl rfl rfl (pure_quon rfl rfl rfl (by omega)) ?_
                  refine ol_pure rfl rfl rfl (pure_move rfl rfl) ?_
                  refine ol_pure rfl rfl rfl (pure_lenm rfl Try.underlying24 rfl) ?_
                  refine ol_pure rfl rfl rfl (pure_remn rfl rfl rfl (by omega)) ?_
                  refine ol_pure rfl rfl rfl (pure_assign rfl rfl) ?_
                  refine ol_nil ?_
                  refine cut_next (n := 102) (l := [(0, _), (1, _), (2, _), (7, _), (8, _), (9, _), (10, _), (11, _), (12, _), (13, _)]) (o' := [(7, _), (9, _)]) rfl ⟨rfl, rfl, rfl, rfl, rfl, rfl, rfl, rfl, rfl, rfl, trivial⟩ ⟨rfl, rfl, trivial⟩ ?_   -- cut 15 end 1
                  rw [wX1, if_pos (by assumption)]
                  try rfl
                · try simp only [decide_eq_true_eq, decide_eq_false_iff_not, Bool.not_eq_true', Bool.not_eq_false', Bool.and_eq_true, Bool.or_eq_true, Bool.and_eq_false_iff, List.length_map, Int.toNat_natCast] at h4
                  refine code_skip ?_
                  refine cut_next (n := 102) (l := [(0, _), (1, _), (2, _), (7, _), (8, _), (9, _), (10, _), (11, _), (12, _), (13, _)]) (o' := [(7, _), (9, _)]) rfl ⟨rfl, rfl, rfl, rfl, rfl, rfl, rfl, rfl, rfl, rfl, trivial⟩ ⟨rfl, rfl, trivial⟩ ?_   -- cut 15 end 2
                  rw [wX1, if_neg (by assumption)]
                  try rfl
              · rintro zs ⟨rfl⟩
                refine code_cut (fun zs => zs = ⟨102, [(0, .v .mx (letters a)), (1, .v .mx (ints l)), (2, .v .mx (int many)), (7, .own 7), (8, .v .pl (int i)), (9, .own 9), (10, .v .pl (ints ((wordsN a l i).getD (i - 1) default))), (11, .v .pl (int k)), (12, .v .pl (int (wX2 a l i ((wordsN a l i).getD (i - 1) default) k))), (13, .v .pl (int (numL l (7 * i + k))))], [(7, .arr 22 ((wordsN a l i).map ints)), (9, .arr 3 ((wA a l i ((wordsN a l i).getD (i - 1) default) k).map int))]⟩) ?_ ?_
                · skip
                  refine code_seq ?_
                  refine code_ops _ rfl ?_
                  refine ol_pure rfl rfl rfl (pure_move rfl rfl) ?_
                  refine ol_pure rfl rfl rfl (pure_remn rfl rfl rfl (by omega)) ?_
                  refine ol_pure rfl rfl rfl (pure_eql rfl rfl rfl) ?_
                  refine ol_nil ?_
                  refine seq_pick 102 [(0, _), (1, _), (2, _), (7, _), (8, _), (9, _), (10, _), (11, _), (12, _), (13, _), (55, _)] [(7, _), (9, _)] rfl ⟨rfl, rfl, rfl, rfl, rfl, rfl, rfl, rfl, rfl, rfl, rfl, trivial⟩ ⟨rfl, rfl, trivial⟩ ?_
                  refine code_cond rfl (fun h5 => ?_) (fun h5 => ?_)
                  · try simp only [decide_eq_true_eq, decide_eq_false_iff_not, Bool.not_eq_true', Bool.not_eq_false', Bool.and_eq_true, Bool.or_eq_true, Bool.and_eq_false_iff, List.length_map, Int.toNat_natCast] at h5
                    refine code_ops _ rfl ?_
                    refine ol_pure rfl rfl rfl (pure_move rfl rfl) ?_
                    refine ol_pure rfl rfl rfl (pure_move rfl rfl) ?_
                    refine ol_pure rfl rfl rfl (pure_move rfl rfl) ?_
                    refine ol_pure rfl rfl rfl (pure_quon rfl rfl rfl (by omega)) ?_
                    refine ol_pure rfl rfl rfl (pure_call rfl rfl rfl (sister_call (by assumption) (by omega)) hM0) ?_
                    refine ol_pure rfl rfl rfl (pure_assign rfl rfl) ?_
                    refine ol_nil ?_
                    refine cut_next (n := 102) (l := [(0, _), (1, _), (2, _), (7, _), (8, _), (9, _), (10, _), (11, _), (12, _), (13, _)]) (o' := [(7, _), (9, _)]) rfl ⟨rfl, rfl, rfl, rfl, rfl, rfl, rfl, rfl, rfl, rfl, trivial⟩ ⟨rfl, rfl, trivial⟩ ?_   -- cut 17 end 1
                    rw [wX2, if_pos (by assumption)]
                    try rfl
                  · try simp only [decide_eq_true_eq, decide_eq_false_iff_not, Bool.not_eq_true', Bool.not_eq_false', Bool.and_eq_true, Bool.or_eq_true, Bool.and_eq_false_iff, List.length_map, Int.toNat_natCast] at h5
                    refine code_skip ?_
                    refine cut_next (n := 102) (l := [(0, _), (1, _), (2, _), (7, _), (8, _), (9, _), (10, _), (11, _), (12, _), (13, _)]) (o' := [(7, _), (9, _)]) rfl ⟨rfl, rfl, rfl, rfl, rfl, rfl, rfl, rfl, rfl, rfl, trivial⟩ ⟨rfl, rfl, trivial⟩ ?_   -- cut 17 end 2
                    rw [wX2, if_neg (by assumption)]
                    try rfl
                · rintro zs ⟨rfl⟩
                  refine code_seq ?_
                  refine code_seq ?_
                  refine code_ops _ rfl ?_
                  refine ol_pure rfl rfl rfl (pure_move rfl rfl) ?_
                  refine ol_pure rfl rfl rfl (pure_remn rfl rfl rfl (by omega)) ?_
                  refine ol_pure rfl rfl rfl (pure_eql rfl rfl rfl) ?_
                  refine ol_nil ?_
                  refine seq_pick 102 [(0, _), (1, _), (2, _), (7, _), (8, _), (9, _), (10, _), (11, _), (12, _), (63, _)] [(7, _), (9, _)] rfl ⟨rfl, rfl, rfl, rfl, rfl, rfl, rfl, rfl, rfl, rfl, trivial⟩ ⟨rfl, rfl, trivial⟩ ?_
                  refine code_cond rfl (fun h6 => ?_) (fun h6 => ?_)
                  · try simp only [decide_eq_true_eq, decide_eq_false_iff_not, Bool.not_eq_true', Bool.not_eq_false', Bool.and_eq_true, Bool.or_eq_true, Bool.and_eq_false_iff, List.length_map, Int.toNat_natCast] at h6
                    refine code_exit ?_
                    refine seqQ_exit ?_
                    refine blockQ_same ?_
                    refine seq_pick 102 [(0, _), (1, _), (2, _), (7, _), (8, _), (9, _), (10, _), (11, _)] [(7, _), (9, _)] rfl ⟨rfl, rfl, rfl, rfl, rfl, rfl, rfl, rfl, trivial⟩ ⟨rfl, rfl, trivial⟩ ?_
                    refine code_ops _ rfl ?_
                    refine ol_pure rfl rfl rfl (pure_move rfl rfl) ?_
                    refine ol_pure rfl rfl rfl (pure_addi rfl rfl rfl (by omega)) ?_
                    refine ol_pure rfl rfl rfl (pure_assign rfl rfl) ?_
                    refine ol_nil ?_
                    refine loop_next (n := 102) (l := [(0, _), (1, _), (2, _), (7, _), (8, _), (9, _), (10, _), (11, _)]) (o' := [(7, _), (9, _)]) rfl ⟨rfl, rfl, rfl, rfl, rfl, rfl, rfl, rfl, trivial⟩ ⟨rfl, rfl, trivial⟩ ?_   -- loop 2 end 1
                    exact ⟨_, ⟨k + 1, rfl, by omega, by rw [wA, if_pos (by omega)]; rfl⟩, by omega⟩
                  · try simp only [decide_eq_true_eq, decide_eq_false_iff_not, Bool.not_eq_true', Bool.not_eq_false', Bool.and_eq_true, Bool.or_eq_true, Bool.and_eq_false_iff, List.length_map, Int.toNat_natCast] at h6
                    refine code_skip ?_
                    refine seq_pick 102 [(0, _), (1, _), (2, _), (7, _), (8, _), (9, _), (10, _), (11, _), (12, _)] [(7, _), (9, _)] rfl ⟨rfl, rfl, rfl, rfl, rfl, rfl, rfl, rfl, rfl, trivial⟩ ⟨rfl, rfl, trivial⟩ ?_
                    refine code_ops _ rfl ?_
                    refine ol_pure rfl rfl rfl (pure_move rfl rfl) ?_
                    refine ol_pure rfl rfl rfl (pure_move rfl rfl) ?_
                    refine ol_pure rfl rfl rfl (pure_lit rfl Try.underlying22 el3 rfl rfl rfl rfl hM0) ?_
                    refine ol_step rfl (step_append rfl rfl rfl rfl Try.underlying22 el3 rfl rfl hM0 (src_pl rfl (one_len (by rfl))) (by simp only [List.length_map, List.length_append, List.length_cons, List.length_nil]; have := wA_len a l i ((wordsN a l i).getD (i - 1) default) k; have := wordsN_last a l i; omega) (by simp only [List.length_map, List.length_append, List.length_cons, List.length_nil]; have := wA_len a l i ((wordsN a l i).getD (i - 1) default) k; have := wordsN_last a l i; omega)) ?_
                    refine ol_pure rfl rfl rfl (pure_assign rfl rfl) ?_
                    refine ol_nil ?_
                    refine blockQ_normal ?_
                    refine seq_pick 102 [(0, _), (1, _), (2, _), (7, _), (8, _), (9, _), (10, _), (11, _)] [(7, _), (9, _)] rfl ⟨rfl, rfl, rfl, rfl, rfl, rfl, rfl, rfl, trivial⟩ ⟨rfl, rfl, trivial⟩ ?_
                    refine code_ops _ rfl ?_
                    refine ol_pure rfl rfl rfl (pure_move rfl rfl) ?_
                    refine ol_pure rfl rfl rfl (pure_addi rfl rfl rfl (by omega)) ?_
                    refine ol_pure rfl rfl rfl (pure_assign rfl rfl) ?_
                    refine ol_nil ?_
                    refine loop_next (n := 102) (l := [(0, _), (1, _), (2, _), (7, _), (8, _), (9, _), (10, _), (11, _)]) (o' := [(7, _), (9, _)]) rfl ⟨rfl, rfl, rfl, rfl, rfl, rfl, rfl, rfl, trivial⟩ ⟨rfl, rfl, trivial⟩ ?_   -- loop 2 end 2
                    exact ⟨_, ⟨k + 1, rfl, by omega, by rw [wA, if_neg (by omega), List.map_append]; rfl⟩, by omega⟩
            · try simp only [decide_eq_true_eq, decide_eq_false_iff_not, Bool.not_eq_true', Bool.not_eq_false', Bool.and_eq_true, Bool.or_eq_true, Bool.and_eq_false_iff, List.length_map, Int.toNat_natCast] at h3
              refine code_exit ?_
              refine seqQ_exit ?_
              refine loopM_exit ?_
              refine blockQ_same ?_
              refine cut_next (n := 102) (l := [(0, _), (1, _), (2, _), (7, _), (8, _), (9, _)]) (o' := [(7, _), (9, _)]) rfl ⟨rfl, rfl, rfl, rfl, rfl, rfl, trivial⟩ ⟨rfl, rfl, trivial⟩ ?_   -- cut 19 end 1
              rw [wI, if_pos (by omega), show k = ((wordsN a l i).getD (i - 1) default).length by omega]
        · try simp only [decide_eq_true_eq, decide_eq_false_iff_not, Bool.not_eq_true', Bool.not_eq_false', Bool.and_eq_true, Bool.or_eq_true, Bool.and_eq_false_iff, List.length_map, Int.toNat_natCast] at h2
          refine code_skip ?_
          refine cut_next (n := 102) (l := [(0, _), (1, _), (2, _), (7, _), (8, _), (9, _)]) (o' := [(7, _), (9, _)]) rfl ⟨rfl, rfl, rfl, rfl, rfl, rfl, trivial⟩ ⟨rfl, rfl, trivial⟩ ?_   -- cut 19 end 2
          rw [wI, if_neg (by omega)]; rfl
      · rintro zs ⟨rfl⟩
        have hn1 := numL_bd (l := l) (i := 3 * i + 1) (by omega)
        refine code_seq ?_
        refine code_ops _ rfl ?_
        refine ol_pure rfl rfl rfl (pure_move rfl rfl) ?_
        refine ol_pure rfl rfl rfl (pure_move rfl rfl) ?_
        refine ol_pure rfl rfl rfl (pure_muli rfl rfl rfl (by omega)) ?_
        refine ol_pure rfl rfl rfl (pure_addi rfl rfl rfl (by omega)) ?_
        refine ol_pure rfl rfl rfl (pure_call rfl rfl rfl (num_call (by omega) (by omega)) hM0) ?_
        refine ol_pure rfl rfl rfl (pure_remn rfl rfl rfl (by omega)) ?_
        refine ol_pure rfl rfl rfl (pure_assign rfl rfl) ?_
        refine ol_nil ?_
        refine seq_pick 102 [(0, _), (1, _), (2, _), (7, _), (8, _), (9, _), (14, _)] [(7, _), (9, _)] rfl ⟨rfl, rfl, rfl, rfl, rfl, rfl, rfl, trivial⟩ ⟨rfl, rfl, trivial⟩ ?_
        refine code_seq ?_
        refine code_seq ?_
        refine code_ops _ rfl ?_
        refine ol_pure rfl rfl rfl (pure_assign rfl rfl) ?_
        refine ol_nil ?_
        refine seq_pick 102 [(0, _), (1, _), (2, _), (7, _), (8, _), (9, _), (14, _), (15, _)] [(7, _), (9, _)] rfl ⟨rfl, rfl, rfl, rfl, rfl, rfl, rfl, rfl, trivial⟩ ⟨rfl, rfl, trivial⟩ ?_
        refine code_block ?_
        refine code_loopM (fun zm zs => ∃ k : Nat, zm = (moreN l i).toNat - k ∧ (k ≤ (moreN l i).toNat) ∧ zs = ⟨102, [(0, .v .mx (letters a)), (1, .v .mx (ints l)), (2, .v .mx (int many)), (7, .own 7), (8, .v .pl (int i)), (9, .own 9), (14, .v .pl (int (moreN l i))), (15, .v .pl (int k))], [(7, .arr 22 ((wordsN a l i).map ints)), (9, .arr 3 ((wI a l i ((wordsN a l i).getD (i - 1) default) ++ wB a l i k).map int))]⟩) (loop_init (n := 102) (l := [(0, _), (1, _), (2, _), (7, _), (8, _), (9, _), (14, _), (15, _)]) (o' := [(7, _), (9, _)]) rfl ⟨rfl, rfl, rfl, rfl, rfl, rfl, rfl, rfl, trivial⟩ ⟨rfl, rfl, trivial⟩ ?_) ?_
        · refine ⟨_, 0, rfl, Nat.zero_le _, ?_⟩
          rw [wB, List.append_nil]; rfl
        · rintro zm zs ⟨k, rfl, hL3_0, rfl⟩
          have hm4 := moreN_bd l i
          have hn0 := numL_bd (l := l) (i := 5 * i + k) (by omega)
          refine code_seq ?_
          refine code_seq ?_
          refine code_ops _ rfl ?_
          refine ol_pure rfl rfl rfl (pure_move rfl rfl) ?_
          refine ol_pure rfl rfl rfl (pure_move rfl rfl) ?_
          refine ol_pure rfl rfl rfl (pure_lss rfl rfl rfl) ?_
          refine ol_nil ?_
          refine seq_pick 102 [(0, _), (1, _), (2, _), (7, _), (8, _), (9, _), (14, _), (15, _), (76, _)] [(7, _), (9, _)] rfl ⟨rfl, rfl, rfl, rfl, rfl, rfl, rfl, rfl, rfl, trivial⟩ ⟨rfl, rfl, trivial⟩ ?_
          refine code_cond rfl (fun h7 => ?_) (fun h7 => ?_)
          · try simp only [decide_eq_true_eq, decide_eq_false_iff_not, Bool.not_eq_true', Bool.not_eq_false', Bool.and_eq_true, Bool.or_eq_true, Bool.and_eq_false_iff, List.length_map, Int.toNat_natCast] at h7
            refine code_skip ?_
            refine seq_pick 102 [(0, _), (1, _), (2, _), (7, _), (8, _), (9, _), (14, _), (15, _)] [(7, _), (9, _)] rfl ⟨rfl, rfl, rfl, rfl, rfl, rfl, rfl, rfl, trivial⟩ ⟨rfl, rfl, trivial⟩ ?_
            refine code_seq ?_
            refine code_block ?_
            refine code_seq ?_
            refine code_ops _ rfl ?_
            refine ol_pure rfl rfl rfl (pure_move rfl rfl) ?_
            refine ol_pure rfl rfl rfl (pure_move rfl rfl) ?_
            refine ol_pure rfl rfl rfl (pure_muli rfl rfl rfl (by omega)) ?_
            refine ol_pure rfl rfl rfl (pure_move rfl rfl) ?_
            refine ol_pure rfl rfl rfl (pure_addi rfl rfl rfl (by omega)) ?_
            refine ol_pure rfl rfl rfl (pure_call rfl rfl rfl (num_call (by omega) (by omega)) hM0) ?_
            refine ol_pure rfl rfl rfl (pure_move rfl rfl) ?_
            refine ol_pick 102 [(0, _), (1, _), (2, _), (7, _), (8, _), (9, _), (14, _), (15, _), (84, _), (85, _)] [(7, _), (9, _)] rfl ⟨rfl, rfl, rfl, rfl, rfl, rfl, rfl, rfl, rfl, rfl, trivial⟩ ⟨rfl, rfl, trivial⟩ ?_
            refine ol_pure rfl rfl rfl (pure_lenm rfl Try.underlying24 rfl) ?_
            refine ol_pure rfl rfl rfl (pure_addi rfl rfl rfl (by omega)) ?_
            refine ol_pure rfl rfl rfl (pure_remn rfl rfl rfl (by omega)) ?_
            refine ol_pure rfl rfl rfl (pure_assign rfl rfl) ?_
            refine ol_nil ?_
            refine seq_pick 102 [(0, _), (1, _), (2, _), (7, _), (8, _), (9, _), (14, _), (15, _), (16, _)] [(7, _), (9, _)] rfl ⟨rfl, rfl, rfl, rfl, rfl, rfl, rfl, rfl, rfl, trivial⟩ ⟨rfl, rfl, trivial⟩ ?_
            refine code_cut (fun zs => zs = ⟨102, [(0, .v .mx (letters a)), (1, .v .mx (ints l)), (2, .v .mx (int many)), (7, .own 7), (8, .v .pl (int i)), (9, .own 9), (14, .v .pl (int (moreN l i))), (15, .v .pl (int k)), (16, .v .pl (int (wX a l i k)))], [(7, .arr 22 ((wordsN a l i).map ints)), (9, .arr 3 ((wI a l i ((wordsN a l i).getD (i - 1) default) ++ wB a l i k).map int))]⟩) ?_ ?_
            · skip
              refine code_seq ?_
              refine code_ops _ rfl ?_
              refine ol_pure rfl rfl rfl (pure_move rfl rfl) ?_
              refine ol_pure rfl rfl rfl (pure_move rfl rfl) ?_
              refine ol_pure rfl rfl rfl (pure_lenm rfl Try.underlying24 rfl) ?_
              refine ol_pure rfl rfl rfl (pure_eql rfl rfl rfl) ?_
              refine ol_nil ?_
              refine seq_pick 102 [(0, _), (1, _), (2, _), (7, _), (8, _), (9, _), (14, _), (15, _), (16, _), (92, _)] [(7, _), (9, _)] rfl ⟨rfl, rfl, rfl, rfl, rfl, rfl, rfl, rfl, rfl, rfl, trivial⟩ ⟨rfl, rfl, trivial⟩ ?_
              refine code_cond rfl (fun h8 => ?_) (fun h8 => ?_)
              · try simp only [decide_eq_true_eq, decide_eq_false_iff_not, Bool.not_eq_true', Bool.not_eq_false', Bool.and_eq_true, Bool.or_eq_true, Bool.and_eq_false_iff, List.length_map, Int.toNat_natCast] at h8
                refine code_ops _ rfl ?_
                refine ol_pure rfl rfl rfl (pure_assign rfl rfl) ?_
                refine ol_nil ?_
                refine cut_next (n := 102) (l := [(0, _), (1, _), (2, _), (7, _), (8, _), (9, _), (14, _), (15, _), (16, _)]) (o' := [(7, _), (9, _)]) rfl ⟨rfl, rfl, rfl, rfl, rfl, rfl, rfl, rfl, rfl, trivial⟩ ⟨rfl, rfl, trivial⟩ ?_   -- cut 26 end 1
                rw [wX, if_pos (by assumption)]
                try rfl
              · try simp only [decide_eq_true_eq, decide_eq_false_iff_not, Bool.not_eq_true', Bool.not_eq_false', Bool.and_eq_true, Bool.or_eq_true, Bool.and_eq_false_iff, List.length_map, Int.toNat_natCast] at h8
                refine code_skip ?_
                refine cut_next (n := 102) (l := [(0, _), (1, _), (2, _), (7, _), (8, _), (9, _), (14, _), (15, _), (16, _)]) (o' := [(7, _), (9, _)]) rfl ⟨rfl, rfl, rfl, rfl, rfl, rfl, rfl, rfl, rfl, trivial⟩ ⟨rfl, rfl, trivial⟩ ?_   -- cut 26 end 2
                rw [wX, if_neg (by assumption)]
                try rfl
            · rintro zs ⟨rfl⟩
              refine code_ops _ rfl ?_
              refine ol_pure rfl rfl rfl (pure_move rfl rfl) ?_
              refine ol_pure rfl rfl rfl (pure_move rfl rfl) ?_
              refine ol_pure rfl rfl rfl (pure_lit rfl Try.underlying22 el3 rfl rfl rfl rfl hM0) ?_
              refine ol_step rfl (step_append rfl rfl rfl rfl Try.underlying22 el3 rfl rfl hM0 (src_pl rfl (one_len (by rfl))) (by simp only [List.length_map, List.length_append, List.length_cons, List.length_nil]; have := wI_len a l i ((wordsN a l i).getD (i - 1) default); have := wordsN_last a l i; have := wB_len a l i k; omega) (by simp only [List.length_map, List.length_append, List.length_cons, List.length_nil]; have := wI_len a l i ((wordsN a l i).getD (i - 1) default); have := wordsN_last a l i; have := wB_len a l i k; omega)) ?_
              refine ol_pure rfl rfl rfl (pure_assign rfl rfl) ?_
              refine ol_nil ?_
              refine blockQ_normal ?_
              refine seq_pick 102 [(0, _), (1, _), (2, _), (7, _), (8, _), (9, _), (14, _), (15, _)] [(7, _), (9, _)] rfl ⟨rfl, rfl, rfl, rfl, rfl, rfl, rfl, rfl, trivial⟩ ⟨rfl, rfl, trivial⟩ ?_
              refine code_ops _ rfl ?_
              refine ol_pure rfl rfl rfl (pure_move rfl rfl) ?_
              refine ol_pure rfl rfl rfl (pure_addi rfl rfl rfl (by omega)) ?_
              refine ol_pure rfl rfl rfl (pure_assign rfl rfl) ?_
              refine ol_nil ?_
              refine loop_next (n := 102) (l := [(0, _), (1, _), (2, _), (7, _), (8, _), (9, _), (14, _), (15, _)]) (o' := [(7, _), (9, _)]) rfl ⟨rfl, rfl, rfl, rfl, rfl, rfl, rfl, rfl, trivial⟩ ⟨rfl, rfl, trivial⟩ ?_   -- loop 3 end 1
              exact ⟨_, ⟨k + 1, rfl, by omega, by rw [wB, ← List.append_assoc, List.map_append (l₂ := [wX a l i k])]; rfl⟩, by omega⟩
          · try simp only [decide_eq_true_eq, decide_eq_false_iff_not, Bool.not_eq_true', Bool.not_eq_false', Bool.and_eq_true, Bool.or_eq_true, Bool.and_eq_false_iff, List.length_map, Int.toNat_natCast] at h7
            refine code_exit ?_
            refine seqQ_exit ?_
            refine loopM_exit ?_
            refine blockQ_same ?_
            refine seq_pick 102 [(0, _), (1, _), (2, _), (7, _), (8, _), (9, _)] [(7, _), (9, _)] rfl ⟨rfl, rfl, rfl, rfl, rfl, rfl, trivial⟩ ⟨rfl, rfl, trivial⟩ ?_
            refine code_frz 102 [(0, _), (1, _), (2, _), (7, _), (8, _), (9, _)] [(7, _)] hM0 rfl ⟨.inl rfl, .inl rfl, .inl rfl, .inl rfl, .inl rfl, .inr ⟨_, _, rfl, rfl, rfl⟩, trivial⟩ ⟨rfl, trivial⟩ ?_
            refine code_ops _ rfl ?_
            refine ol_pure rfl rfl rfl (pure_move rfl rfl) ?_
            refine ol_pure rfl rfl rfl (pure_move rfl rfl) ?_
            refine ol_pure rfl rfl rfl (pure_lit rfl Try.underlying23 el22 rfl rfl rfl rfl hM0) ?_
            refine ol_step rfl (step_append rfl rfl rfl rfl Try.underlying23 el22 rfl rfl hM0 (src_pl rfl (one_len (by rfl))) (by simp only [List.length_map, List.length_append, List.length_cons, List.length_nil]; have := wordsN_len a l i; omega) (by simp only [List.length_map, List.length_append, List.length_cons, List.length_nil]; have := wordsN_len a l i; omega)) ?_
            refine ol_pure rfl rfl rfl (pure_assign rfl rfl) ?_
            refine ol_nil ?_
            refine blockQ_normal ?_
            refine seq_pick 102 [(0, _), (1, _), (2, _), (7, _), (8, _)] [(7, _)] rfl ⟨rfl, rfl, rfl, rfl, rfl, trivial⟩ ⟨rfl, trivial⟩ ?_
            refine code_ops _ rfl ?_
            refine ol_pure rfl rfl rfl (pure_move rfl rfl) ?_
            refine ol_pure rfl rfl rfl (pure_addi rfl rfl rfl (by omega)) ?_
            refine ol_pure rfl rfl rfl (pure_assign rfl rfl) ?_
            refine ol_nil ?_
            refine loop_next (n := 102) (l := [(0, _), (1, _), (2, _), (7, _), (8, _)]) (o' := [(7, _)]) rfl ⟨rfl, rfl, rfl, rfl, rfl, trivial⟩ ⟨rfl, trivial⟩ ?_   -- loop 1 end 1
            exact ⟨_, ⟨i + 1, rfl, by omega, by rw [show k = (moreN l i).toNat by omega, wordsN, List.map_append (f := ints)]; rfl⟩, by omega⟩
    · try simp only [decide_eq_true_eq, decide_eq_false_iff_not, Bool.not_eq_true', Bool.not_eq_false', Bool.and_eq_true, Bool.or_eq_true, Bool.and_eq_false_iff, List.length_map, Int.toNat_natCast] at h1
      refine code_exit ?_
      refine seqQ_exit ?_
      refine loopM_exit ?_
      refine blockQ_same ?_
      refine seq_pick 102 [(7, _)] [(7, _)] rfl ⟨rfl, trivial⟩ ⟨rfl, trivial⟩ ?_
      refine code_seq ?_
      refine code_ops _ rfl ?_
      refine ol_pure rfl rfl rfl (pure_move rfl rfl) ?_
      refine ol_pure rfl rfl rfl (pure_assign rfl rfl) ?_
      refine ol_nil ?_
      refine seq_pick 102 [(6, _)] [(7, _)] rfl ⟨rfl, trivial⟩ ⟨rfl, trivial⟩ ?_
      refine code_ret ?_
      refine end_ret rfl ?_   -- end 1
      rw [wordsP, show i = many.toNat by omega]
end Go.Proofs.Ytcimmcjnkphagaa
