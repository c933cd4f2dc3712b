/-
  Contracts of the reference's comparisons, keys, sections and ranges.
-/
import Derived.Test.YtcimmcjnkphagaaCb
import Derived.Test.YtcimmcjnkphagaaCd
import Derived.Test.YtcimmcjnkphagaaPd
namespace Go.Proofs.Ytcimmcjnkphagaa
open Go.Am Go.Wb
set_option linter.unusedVariables false
set_option linter.unusedSimpArgs false

theorem fn47 : Fn1 Try.prog 47 Try.f47.ntmps 8 (Try.f47.body.getD .skip) := ⟨Try.f47, Try.func47, rfl, rfl, rfl, by kernel_rfl⟩
set_option maxRecDepth 100000 in
set_option maxHeartbeats 2000000 in
theorem upto_call {a : List Letter} {v w : List Int} {k : Int} (ha : a.length ≤ 1099511627776) (hv : v.length ≤ 1099511627776) (hw : w.length ≤ 1099511627776) (hk : k ≤ 4) :
    CallF Try.prog 47 [letters a, ints v, ints w, int k] (.p (int (upto a v w k.toNat 1))) := by
  refine callF_of_code fn47 (Nat.le_of_ble_eq_true rfl) fun w0 M0 hM0 => ?_
  refine code_seq ?_
  refine code_ops _ rfl ?_
  refine ol_pure rfl rfl rfl (pure_assign rfl rfl) ?_
  refine ol_nil ?_
  refine seq_pick 28 [(0, _), (1, _), (2, _), (3, _)] [] rfl ⟨rfl, rfl, rfl, rfl, trivial⟩ trivial ?_
  refine code_seq ?_
  refine code_seq ?_
  refine code_ops _ rfl ?_
  refine ol_pure rfl rfl rfl (pure_assign rfl rfl) ?_
  refine ol_nil ?_
  refine seq_pick 28 [(0, _), (1, _), (2, _), (3, _), (9, _)] [] rfl ⟨rfl, rfl, rfl, rfl, rfl, trivial⟩ trivial ?_
  refine code_block ?_
  refine code_loopM (fun zm zs => ∃ i : Nat, zm = k.toNat - i ∧ (i ≤ k.toNat) ∧ (upto a v w k.toNat 1 = upto a v w (k.toNat - i) (i + 1)) ∧ zs = ⟨28, [(0, .v .mx (letters a)), (1, .v .mx (ints v)), (2, .v .mx (ints w)), (3, .v .mx (int k)), (9, .v .pl (int ((i : Int) + 1)))], []⟩) (loop_init (n := 28) (l := [(0, _), (1, _), (2, _), (3, _), (9, _)]) (o' := []) rfl ⟨rfl, rfl, rfl, rfl, rfl, trivial⟩ trivial ?_) ?_
  · exact ⟨_, 0, rfl, Nat.zero_le _, rfl, rfl⟩
  · rintro zm zs ⟨i, rfl, hL1_0, hL1_1, rfl⟩
    refine code_seq ?_
    refine code_seq ?_
    refine code_ops _ rfl ?_
    refine ol_pure rfl rfl rfl (pure_move rfl rfl) ?_
    refine ol_pure rfl rfl rfl (pure_move rfl rfl) ?_
    refine ol_pure rfl rfl rfl (pure_leq rfl rfl rfl) ?_
    refine ol_nil ?_
    refine seq_pick 28 [(0, _), (1, _), (2, _), (3, _), (9, _), (13, _)] [] rfl ⟨rfl, rfl, rfl, rfl, rfl, rfl, trivial⟩ trivial ?_
    refine code_cond rfl (fun h1 => ?_) (fun h1 => ?_)
    · try simp only [decide_eq_true_eq, decide_eq_false_iff_not, Bool.not_eq_true', Bool.not_eq_false', Bool.and_eq_true, Bool.or_eq_true, Bool.and_eq_false_iff, List.length_map, Int.toNat_natCast] at h1
      refine code_skip ?_
      refine seq_pick 28 [(0, _), (1, _), (2, _), (3, _), (9, _)] [] rfl ⟨rfl, rfl, rfl, rfl, rfl, trivial⟩ trivial ?_
      refine code_seq ?_
      refine code_block ?_
      refine code_seq ?_
      refine code_ops _ rfl ?_
      refine ol_pure rfl rfl rfl (pure_move rfl rfl) ?_
      refine ol_pure rfl rfl rfl (pure_move rfl rfl) ?_
      refine ol_pure rfl rfl rfl (pure_move rfl rfl) ?_
      refine ol_pure rfl rfl rfl (pure_call rfl rfl rfl (level_call (by assumption) (by assumption)) hM0) ?_
      refine ol_pure rfl rfl rfl (pure_move rfl rfl) ?_
      refine ol_pure rfl rfl rfl (pure_move rfl rfl) ?_
      refine ol_pure rfl rfl rfl (pure_move rfl rfl) ?_
      refine ol_pure rfl rfl rfl (pure_call rfl rfl rfl (level_call (by assumption) (by assumption)) hM0) ?_
      refine ol_pure rfl rfl rfl (pure_call rfl rfl rfl (order_call (Nat.le_trans (level_length_le _ _ _) (by omega)) (Nat.le_trans (level_length_le _ _ _) (by omega))) hM0) ?_
      refine ol_pure rfl rfl rfl (pure_assign rfl rfl) ?_
      refine ol_nil ?_
      refine seq_pick 28 [(0, _), (1, _), (2, _), (3, _), (9, _), (10, _)] [] rfl ⟨rfl, rfl, rfl, rfl, rfl, rfl, trivial⟩ trivial ?_
      refine code_seq ?_
      refine code_ops _ rfl ?_
      refine ol_pure rfl rfl rfl (pure_move rfl rfl) ?_
      refine ol_pure rfl rfl rfl (pure_neq rfl rfl rfl) ?_
      refine ol_nil ?_
      refine seq_pick 28 [(0, _), (1, _), (2, _), (3, _), (9, _), (10, _), (26, _)] [] rfl ⟨rfl, rfl, rfl, rfl, rfl, rfl, rfl, trivial⟩ trivial ?_
      refine code_cond rfl (fun h2 => ?_) (fun h2 => ?_)
      · try simp only [decide_eq_true_eq, decide_eq_false_iff_not, Bool.not_eq_true', Bool.not_eq_false', Bool.and_eq_true, Bool.or_eq_true, Bool.and_eq_false_iff, List.length_map, Int.toNat_natCast] at h2
        refine code_seq ?_
        refine code_ops _ rfl ?_
        refine ol_pure rfl rfl rfl (pure_move rfl rfl) ?_
        refine ol_pure rfl rfl rfl (pure_assign rfl rfl) ?_
        refine ol_nil ?_
        refine seq_pick 28 [(8, _)] [] rfl ⟨rfl, trivial⟩ trivial ?_
        refine code_ret ?_
        refine blockQ_ret ?_
        refine seqQ_ret ?_
        refine loopM_ret ?_
        refine blockQ_ret ?_
        refine seqQ_ret ?_
        refine end_ret rfl ?_   -- end 1
        rw [hL1_1, upto_step (by omega), if_pos (by assumption)]
      · try simp only [decide_eq_true_eq, decide_eq_false_iff_not, Bool.not_eq_true', Bool.not_eq_false', Bool.and_eq_true, Bool.or_eq_true, Bool.and_eq_false_iff, List.length_map, Int.toNat_natCast] at h2
        refine code_skip ?_
        refine blockQ_normal ?_
        refine seq_pick 28 [(0, _), (1, _), (2, _), (3, _), (9, _)] [] rfl ⟨rfl, rfl, rfl, rfl, rfl, trivial⟩ trivial ?_
        refine code_ops _ rfl ?_
        refine ol_pure rfl rfl rfl (pure_move rfl rfl) ?_
        refine ol_pure rfl rfl rfl (pure_addi rfl rfl rfl (by omega)) ?_
        refine ol_pure rfl rfl rfl (pure_assign rfl rfl) ?_
        refine ol_nil ?_
        refine loop_next (n := 28) (l := [(0, _), (1, _), (2, _), (3, _), (9, _)]) (o' := []) rfl ⟨rfl, rfl, rfl, rfl, rfl, trivial⟩ trivial ?_   -- loop 1 end 1
        exact ⟨_, ⟨i + 1, rfl, by omega, by rw [hL1_1, upto_step (by omega), if_neg (by omega)]; congr 1, rfl⟩, by omega⟩
    · try simp only [decide_eq_true_eq, decide_eq_false_iff_not, Bool.not_eq_true', Bool.not_eq_false', Bool.and_eq_true, Bool.or_eq_true, Bool.and_eq_false_iff, List.length_map, Int.toNat_natCast] at h1
      refine code_exit ?_
      refine seqQ_exit ?_
      refine loopM_exit ?_
      refine blockQ_same ?_
      refine seq_pick 28 [] [] rfl trivial trivial ?_
      refine code_seq ?_
      refine code_ops _ rfl ?_
      refine ol_pure rfl rfl rfl (pure_assign rfl rfl) ?_
      refine ol_nil ?_
      refine seq_pick 28 [(8, _)] [] rfl ⟨rfl, trivial⟩ trivial ?_
      refine code_ret ?_
      refine end_ret rfl ?_   -- end 2
      rw [hL1_1, show k.toNat - i = 0 by omega]; rfl

theorem fn19 : Fn1 Try.prog 19 Try.f19.ntmps 4 (Try.f19.body.getD .skip) := ⟨Try.f19, Try.func19, rfl, rfl, rfl, by kernel_rfl⟩
set_option maxRecDepth 100000 in
set_option maxHeartbeats 2000000 in
theorem rkey_call {a : List Letter} {w : List Int} (ha : a.length ≤ 1099511627776) (ht : ∀ x ∈ a, x.text.length ≤ 1099511627776) (hw : w.length ≤ 1099511627776) :
    CallF Try.prog 19 [letters a, ints w] (.fresh 3 ((if validA a = true then keyP a w 4 else []).map int)) := by
  refine callF_of_code fn19 (Nat.le_of_ble_eq_true rfl) fun w0 M0 hM0 => ?_
  refine code_seq ?_
  refine code_ops _ rfl ?_
  refine ol_step rfl (step_nil rfl rfl rfl rfl rfl 3 hM0) ?_
  refine ol_nil ?_
  refine seq_pick 40 [(0, _), (1, _)] [] rfl ⟨rfl, rfl, trivial⟩ trivial ?_
  refine code_seq ?_
  refine code_seq ?_
  refine code_ops _ rfl ?_
  refine ol_pure rfl rfl rfl (pure_move rfl rfl) ?_
  refine ol_pure rfl rfl rfl (pure_call rfl rfl rfl (rvalid_call (by assumption) (by assumption)) hM0) ?_
  refine ol_pure rfl rfl rfl (pure_not rfl rfl) ?_
  refine ol_nil ?_
  refine seq_pick 40 [(0, _), (1, _), (11, _)] [] rfl ⟨rfl, rfl, rfl, trivial⟩ trivial ?_
  refine code_cond rfl (fun h1 => ?_) (fun h1 => ?_)
  · try simp only [decide_eq_true_eq, decide_eq_false_iff_not, Bool.not_eq_true', Bool.not_eq_false', Bool.and_eq_true, Bool.or_eq_true, Bool.and_eq_false_iff, List.length_map, Int.toNat_natCast] at h1
    refine code_seq ?_
    refine code_ops _ rfl ?_
    refine ol_step rfl (step_nil rfl rfl rfl rfl rfl 3 hM0) ?_
    refine ol_nil ?_
    refine seq_pick 40 [(4, _)] [(4, _)] rfl ⟨rfl, trivial⟩ ⟨rfl, trivial⟩ ?_
    refine code_ret ?_
    refine seqQ_ret ?_
    refine end_ret rfl ?_   -- end 1
    rw [if_neg (by simp_all)]; rfl
  · try simp only [decide_eq_true_eq, decide_eq_false_iff_not, Bool.not_eq_true', Bool.not_eq_false', Bool.and_eq_true, Bool.or_eq_true, Bool.and_eq_false_iff, List.length_map, Int.toNat_natCast] at h1
    have hval : validA a = true := by simpa using h1
    have hbd := fun k => level_bd hval w k
    have hkl := fun i => keyP_len a w i
    have hll := fun k => level_length_le a w k
    refine code_skip ?_
    refine seq_pick 40 [(0, _), (1, _)] [] rfl ⟨rfl, rfl, trivial⟩ trivial ?_
    refine code_seq ?_
    refine code_ops _ rfl ?_
    refine ol_step rfl (step_nil rfl rfl rfl rfl rfl 3 hM0) ?_
    refine ol_nil ?_
    refine seq_pick 40 [(0, _), (1, _), (5, _)] [(5, _)] rfl ⟨rfl, rfl, rfl, trivial⟩ ⟨rfl, trivial⟩ ?_
    refine code_seq ?_
    refine code_seq ?_
    refine code_ops _ rfl ?_
    refine ol_pure rfl rfl rfl (pure_assign rfl rfl) ?_
    refine ol_nil ?_
    refine seq_pick 40 [(0, _), (1, _), (5, _), (6, _)] [(5, _)] rfl ⟨rfl, rfl, rfl, rfl, trivial⟩ ⟨rfl, trivial⟩ ?_
    refine code_block ?_
    refine code_loopM (fun zm zs => ∃ i : Nat, zm = 4 - i ∧ (i ≤ 4) ∧ zs = ⟨40, [(0, .v .mx (letters a)), (1, .v .mx (ints w)), (5, .own 5), (6, .v .pl (int ((i : Int) + 1)))], [(5, .arr 3 ((keyP a w i).map int))]⟩) (loop_init (n := 40) (l := [(0, _), (1, _), (5, _), (6, _)]) (o' := [(5, _)]) rfl ⟨rfl, rfl, rfl, rfl, trivial⟩ ⟨rfl, trivial⟩ ?_) ?_
    · exact ⟨_, 0, rfl, Nat.zero_le _, rfl⟩
    · rintro zm zs ⟨i, rfl, hL1_0, rfl⟩
      have hi4 : i * (w.length + 1) ≤ 4 * (w.length + 1) := Nat.mul_le_mul_right _ hL1_0
      refine code_seq ?_
      refine code_seq ?_
      refine code_ops _ rfl ?_
      refine ol_pure rfl rfl rfl (pure_move rfl rfl) ?_
      refine ol_pure rfl rfl rfl (pure_leq rfl rfl rfl) ?_
      refine ol_nil ?_
      refine seq_pick 40 [(0, _), (1, _), (5, _), (6, _), (13, _)] [(5, _)] rfl ⟨rfl, rfl, rfl, rfl, rfl, trivial⟩ ⟨rfl, trivial⟩ ?_
      refine code_cond rfl (fun h2 => ?_) (fun h2 => ?_)
      · try simp only [decide_eq_true_eq, decide_eq_false_iff_not, Bool.not_eq_true', Bool.not_eq_false', Bool.and_eq_true, Bool.or_eq_true, Bool.and_eq_false_iff, List.length_map, Int.toNat_natCast] at h2
        refine code_skip ?_
        refine seq_pick 40 [(0, _), (1, _), (5, _), (6, _)] [(5, _)] rfl ⟨rfl, rfl, rfl, rfl, trivial⟩ ⟨rfl, trivial⟩ ?_
        refine code_seq ?_
        refine code_block ?_
        refine code_cut (fun zs => zs = ⟨40, [(0, .v .mx (letters a)), (1, .v .mx (ints w)), (5, .own 5), (6, .v .pl (int ((i : Int) + 1)))], [(5, .arr 3 ((keyP a w i ++ sep i).map int))]⟩) ?_ ?_
        · skip
          refine code_seq ?_
          refine code_ops _ rfl ?_
          refine ol_pure rfl rfl rfl (pure_move rfl rfl) ?_
          refine ol_pure rfl rfl rfl (pure_gtr rfl rfl rfl) ?_
          refine ol_nil ?_
          refine seq_pick 40 [(0, _), (1, _), (5, _), (6, _), (17, _)] [(5, _)] rfl ⟨rfl, rfl, rfl, rfl, rfl, trivial⟩ ⟨rfl, trivial⟩ ?_
          refine code_cond rfl (fun h3 => ?_) (fun h3 => ?_)
          · try simp only [decide_eq_true_eq, decide_eq_false_iff_not, Bool.not_eq_true', Bool.not_eq_false', Bool.and_eq_true, Bool.or_eq_true, Bool.and_eq_false_iff, List.length_map, Int.toNat_natCast] at h3
            refine code_ops _ rfl ?_
            refine ol_pure rfl rfl rfl (pure_move rfl rfl) ?_
            refine ol_pure rfl rfl rfl (pure_lit rfl Try.underlying22 el3 rfl rfl rfl rfl hM0) ?_
            refine ol_step rfl (step_append rfl rfl rfl rfl Try.underlying22 el3 rfl rfl hM0 (src_pl rfl (one_len (by rfl))) (by simp only [List.length_map, List.length_append, List.length_cons, List.length_nil]; have := hkl i; omega) (by simp only [List.length_map, List.length_append, List.length_cons, List.length_nil]; have := hkl i; omega)) ?_
            refine ol_pure rfl rfl rfl (pure_assign rfl rfl) ?_
            refine ol_nil ?_
            refine cut_next (n := 40) (l := [(0, _), (1, _), (5, _), (6, _)]) (o' := [(5, _)]) rfl ⟨rfl, rfl, rfl, rfl, trivial⟩ ⟨rfl, trivial⟩ ?_   -- cut 9 end 1
            rw [show sep i = [0] by unfold sep; rw [if_neg (by omega)], List.map_append]; rfl
          · try simp only [decide_eq_true_eq, decide_eq_false_iff_not, Bool.not_eq_true', Bool.not_eq_false', Bool.and_eq_true, Bool.or_eq_true, Bool.and_eq_false_iff, List.length_map, Int.toNat_natCast] at h3
            refine code_skip ?_
            refine cut_next (n := 40) (l := [(0, _), (1, _), (5, _), (6, _)]) (o' := [(5, _)]) rfl ⟨rfl, rfl, rfl, rfl, trivial⟩ ⟨rfl, trivial⟩ ?_   -- cut 9 end 2
            rw [show sep i = [] by unfold sep; rw [if_pos (by omega)], List.append_nil]
        · rintro zs ⟨rfl⟩
          refine code_seq ?_
          refine code_ops _ rfl ?_
          refine ol_pure rfl rfl rfl (pure_move rfl rfl) ?_
          refine ol_pure rfl rfl rfl (pure_move rfl rfl) ?_
          refine ol_pure rfl rfl rfl (pure_move rfl rfl) ?_
          refine ol_pure rfl rfl rfl (pure_call rfl rfl rfl (level_call (by assumption) (by assumption)) hM0) ?_
          refine ol_pure rfl rfl rfl (pure_assign rfl rfl) ?_
          refine ol_nil ?_
          refine seq_pick 40 [(0, _), (1, _), (5, _), (6, _), (7, _)] [(5, _)] rfl ⟨rfl, rfl, rfl, rfl, rfl, trivial⟩ ⟨rfl, trivial⟩ ?_
          refine code_seq ?_
          refine code_ops _ rfl ?_
          refine ol_pure rfl rfl rfl (pure_assign rfl rfl) ?_
          refine ol_nil ?_
          refine seq_pick 40 [(0, _), (1, _), (5, _), (6, _), (7, _), (8, _)] [(5, _)] rfl ⟨rfl, rfl, rfl, rfl, rfl, rfl, trivial⟩ ⟨rfl, trivial⟩ ?_
          refine code_block ?_
          refine code_loopM (fun zm zs => ∃ k : Nat, zm = (level a w (i + 1)).length - k ∧ (k ≤ (level a w (i + 1)).length) ∧ zs = ⟨40, [(0, .v .mx (letters a)), (1, .v .mx (ints w)), (5, .own 5), (6, .v .pl (int ((i : Int) + 1))), (7, .v .pl (ints (level a w (i + 1)))), (8, .v .pl (int k))], [(5, .arr 3 ((keyP a w i ++ sep i ++ ((level a w (i + 1)).take k).map (· + 1)).map int))]⟩) (loop_init (n := 40) (l := [(0, _), (1, _), (5, _), (6, _), (7, _), (8, _)]) (o' := [(5, _)]) rfl ⟨rfl, rfl, rfl, rfl, rfl, rfl, trivial⟩ ⟨rfl, trivial⟩ ?_) ?_
          · exact ⟨_, 0, rfl, Nat.zero_le _, by rw [List.take_zero, List.map_nil, List.append_nil]; rfl⟩
          · rintro zm zs ⟨k, rfl, hL2_0, rfl⟩
            have hll1 := hll (i + 1)
            refine code_seq ?_
            refine code_seq ?_
            refine code_ops _ rfl ?_
            refine ol_pure rfl rfl rfl (pure_move rfl rfl) ?_
            refine ol_pure rfl rfl rfl (pure_move rfl rfl) ?_
            refine ol_pure rfl rfl rfl (pure_lenm rfl Try.underlying22 rfl) ?_
            refine ol_pure rfl rfl rfl (pure_lss rfl rfl rfl) ?_
            refine ol_nil ?_
            refine seq_pick 40 [(0, _), (1, _), (5, _), (6, _), (7, _), (8, _), (28, _)] [(5, _)] rfl ⟨rfl, rfl, rfl, rfl, rfl, rfl, rfl, trivial⟩ ⟨rfl, trivial⟩ ?_
            refine code_cond rfl (fun h4 => ?_) (fun h4 => ?_)
            · try simp only [decide_eq_true_eq, decide_eq_false_iff_not, Bool.not_eq_true', Bool.not_eq_false', Bool.and_eq_true, Bool.or_eq_true, Bool.and_eq_false_iff, List.length_map, Int.toNat_natCast] at h4
              refine code_skip ?_
              refine seq_pick 40 [(0, _), (1, _), (5, _), (6, _), (7, _), (8, _)] [(5, _)] rfl ⟨rfl, rfl, rfl, rfl, rfl, rfl, trivial⟩ ⟨rfl, trivial⟩ ?_
              refine code_seq ?_
              refine code_block ?_
              refine code_ops _ rfl ?_
              refine ol_pure rfl rfl rfl (pure_move rfl rfl) ?_
              refine ol_pure rfl rfl rfl (pure_move rfl rfl) ?_
              refine ol_pure rfl rfl rfl (pure_move rfl rfl) ?_
              first | refine ol_pure rfl rfl rfl (pure_indexn rfl Try.underlying22 sz3 rfl rfl (by omega) (fun _ => rfl)) ?_ | refine ol_pure rfl rfl rfl (pure_indexm rfl Try.underlying22 sz3 rfl rfl (by omega) (fun _ => rfl)) ?_
              refine ol_pure rfl rfl rfl (pure_load rfl ag3 rfl rfl) ?_
              refine ol_pure rfl rfl rfl (pure_addi rfl rfl rfl (by have := bd_get (hbd (i + 1)) k; omega)) ?_
              refine ol_pure rfl rfl rfl (pure_lit rfl Try.underlying22 el3 rfl rfl rfl rfl hM0) ?_
              refine ol_step rfl (step_append rfl rfl rfl rfl Try.underlying22 el3 rfl rfl hM0 (src_pl rfl (one_len (by rfl))) (by simp only [List.length_map, List.length_append, List.length_cons, List.length_nil, List.length_take]; have := hkl i; have := hll (i + 1); have := sep_len i; omega) (by simp only [List.length_map, List.length_append, List.length_cons, List.length_nil, List.length_take]; have := hkl i; have := hll (i + 1); have := sep_len i; omega)) ?_
              refine ol_pure rfl rfl rfl (pure_assign rfl rfl) ?_
              refine ol_nil ?_
              refine blockQ_normal ?_
              refine seq_pick 40 [(0, _), (1, _), (5, _), (6, _), (7, _), (8, _)] [(5, _)] rfl ⟨rfl, rfl, rfl, rfl, rfl, rfl, trivial⟩ ⟨rfl, trivial⟩ ?_
              refine code_ops _ rfl ?_
              refine ol_pure rfl rfl rfl (pure_move rfl rfl) ?_
              refine ol_pure rfl rfl rfl (pure_addi rfl rfl rfl (by omega)) ?_
              refine ol_pure rfl rfl rfl (pure_assign rfl rfl) ?_
              refine ol_nil ?_
              refine loop_next (n := 40) (l := [(0, _), (1, _), (5, _), (6, _), (7, _), (8, _)]) (o' := [(5, _)]) rfl ⟨rfl, rfl, rfl, rfl, rfl, rfl, trivial⟩ ⟨rfl, trivial⟩ ?_   -- loop 2 end 1
              exact ⟨_, ⟨k + 1, rfl, by omega, by rw [take_succ (by omega)]; simp only [List.map_append, List.append_assoc]; rfl⟩, by omega⟩
            · try simp only [decide_eq_true_eq, decide_eq_false_iff_not, Bool.not_eq_true', Bool.not_eq_false', Bool.and_eq_true, Bool.or_eq_true, Bool.and_eq_false_iff, List.length_map, Int.toNat_natCast] at h4
              refine code_exit ?_
              refine seqQ_exit ?_
              refine loopM_exit ?_
              refine blockQ_same ?_
              refine blockQ_normal ?_
              refine seq_pick 40 [(0, _), (1, _), (5, _), (6, _)] [(5, _)] rfl ⟨rfl, rfl, rfl, rfl, trivial⟩ ⟨rfl, trivial⟩ ?_
              refine code_ops _ rfl ?_
              refine ol_pure rfl rfl rfl (pure_move rfl rfl) ?_
              refine ol_pure rfl rfl rfl (pure_addi rfl rfl rfl (by omega)) ?_
              refine ol_pure rfl rfl rfl (pure_assign rfl rfl) ?_
              refine ol_nil ?_
              refine loop_next (n := 40) (l := [(0, _), (1, _), (5, _), (6, _)]) (o' := [(5, _)]) rfl ⟨rfl, rfl, rfl, rfl, trivial⟩ ⟨rfl, trivial⟩ ?_   -- loop 1 end 1
              exact ⟨_, ⟨i + 1, rfl, by omega, by rw [List.take_of_length_le (by omega)]; rfl⟩, by omega⟩
      · try simp only [decide_eq_true_eq, decide_eq_false_iff_not, Bool.not_eq_true', Bool.not_eq_false', Bool.and_eq_true, Bool.or_eq_true, Bool.and_eq_false_iff, List.length_map, Int.toNat_natCast] at h2
        refine code_exit ?_
        refine seqQ_exit ?_
        refine loopM_exit ?_
        refine blockQ_same ?_
        refine seq_pick 40 [(5, _)] [(5, _)] rfl ⟨rfl, trivial⟩ ⟨rfl, trivial⟩ ?_
        refine code_seq ?_
        refine code_ops _ rfl ?_
        refine ol_pure rfl rfl rfl (pure_move rfl rfl) ?_
        refine ol_pure rfl rfl rfl (pure_assign rfl rfl) ?_
        refine ol_nil ?_
        refine seq_pick 40 [(4, _)] [(5, _)] rfl ⟨rfl, trivial⟩ ⟨rfl, trivial⟩ ?_
        refine code_ret ?_
        refine end_ret rfl ?_   -- end 2
        rw [if_pos hval, show i = 4 by omega]

theorem fn24 : Fn1 Try.prog 24 Try.f24.ntmps 6 (Try.f24.body.getD .skip) := ⟨Try.f24, Try.func24, rfl, rfl, rfl, by kernel_rfl⟩
set_option maxRecDepth 100000 in
set_option maxHeartbeats 2000000 in
theorem rcompare_call {a : List Letter} {v w : List Int} (ha : a.length ≤ 1099511627776) (ht : ∀ x ∈ a, x.text.length ≤ 1099511627776) (hv : v.length ≤ 1099511627776) (hw : w.length ≤ 1099511627776) :
    CallF Try.prog 24 [letters a, ints v, ints w] (.p (int (if validA a = true then upto a v w 4 1 else 0))) := by
  refine callF_of_code fn24 (Nat.le_of_ble_eq_true rfl) fun w0 M0 hM0 => ?_
  refine code_seq ?_
  refine code_ops _ rfl ?_
  refine ol_pure rfl rfl rfl (pure_assign rfl rfl) ?_
  refine ol_nil ?_
  refine seq_pick 14 [(0, _), (1, _), (2, _)] [] rfl ⟨rfl, rfl, rfl, trivial⟩ trivial ?_
  refine code_seq ?_
  refine code_seq ?_
  refine code_ops _ rfl ?_
  refine ol_pure rfl rfl rfl (pure_move rfl rfl) ?_
  refine ol_pure rfl rfl rfl (pure_call rfl rfl rfl (rvalid_call (by assumption) (by assumption)) hM0) ?_
  refine ol_pure rfl rfl rfl (pure_not rfl rfl) ?_
  refine ol_nil ?_
  refine seq_pick 14 [(0, _), (1, _), (2, _), (9, _)] [] rfl ⟨rfl, rfl, rfl, rfl, trivial⟩ trivial ?_
  refine code_cond rfl (fun h1 => ?_) (fun h1 => ?_)
  · try simp only [decide_eq_true_eq, decide_eq_false_iff_not, Bool.not_eq_true', Bool.not_eq_false', Bool.and_eq_true, Bool.or_eq_true, Bool.and_eq_false_iff, List.length_map, Int.toNat_natCast] at h1
    refine code_seq ?_
    refine code_ops _ rfl ?_
    refine ol_pure rfl rfl rfl (pure_assign rfl rfl) ?_
    refine ol_nil ?_
    refine seq_pick 14 [(6, _)] [] rfl ⟨rfl, trivial⟩ trivial ?_
    refine code_ret ?_
    refine seqQ_ret ?_
    refine end_ret rfl ?_   -- end 1
    first | (rw [if_neg (by simp_all)]; done) | (rw [if_pos (by simp_all)]; rfl)
  · try simp only [decide_eq_true_eq, decide_eq_false_iff_not, Bool.not_eq_true', Bool.not_eq_false', Bool.and_eq_true, Bool.or_eq_true, Bool.and_eq_false_iff, List.length_map, Int.toNat_natCast] at h1
    refine code_skip ?_
    refine seq_pick 14 [(0, _), (1, _), (2, _)] [] rfl ⟨rfl, rfl, rfl, trivial⟩ trivial ?_
    refine code_seq ?_
    refine code_ops _ rfl ?_
    refine ol_pure rfl rfl rfl (pure_move rfl rfl) ?_
    refine ol_pure rfl rfl rfl (pure_move rfl rfl) ?_
    refine ol_pure rfl rfl rfl (pure_move rfl rfl) ?_
    refine ol_pure rfl rfl rfl (pure_call rfl rfl rfl (upto_call (by assumption) (by first | assumption | exact shortL.get (by assumption) _) (by first | assumption | exact shortL.get (by assumption) _) (by omega)) hM0) ?_
    refine ol_pure rfl rfl rfl (pure_assign rfl rfl) ?_
    refine ol_nil ?_
    refine seq_pick 14 [(6, _)] [] rfl ⟨rfl, trivial⟩ trivial ?_
    refine code_ret ?_
    refine end_ret rfl ?_   -- end 2
    first | (rw [if_neg (by simp_all)]; done) | (rw [if_pos (by simp_all)]; rfl)

theorem fn26 : Fn1 Try.prog 26 Try.f26.ntmps 8 (Try.f26.body.getD .skip) := ⟨Try.f26, Try.func26, rfl, rfl, rfl, by kernel_rfl⟩
set_option maxRecDepth 100000 in
set_option maxHeartbeats 2000000 in
theorem rsame_call {a : List Letter} {v w : List Int} {k : Int} (ha : a.length ≤ 1099511627776) (ht : ∀ x ∈ a, x.text.length ≤ 1099511627776) (hv : v.length ≤ 1099511627776) (hw : w.length ≤ 1099511627776) :
    CallF Try.prog 26 [letters a, ints v, ints w, int k] (.p (bool (validA a && (decide (1 ≤ k) && (decide (k ≤ 4) && decide (upto a v w k.toNat 1 = 0)))))) := by
  refine callF_of_code fn26 (Nat.le_of_ble_eq_true rfl) fun w0 M0 hM0 => ?_
  refine code_seq ?_
  refine code_ops _ rfl ?_
  refine ol_pure rfl rfl rfl (pure_assign rfl rfl) ?_
  refine ol_nil ?_
  refine seq_pick 27 [(0, _), (1, _), (2, _), (3, _)] [] rfl ⟨rfl, rfl, rfl, rfl, trivial⟩ trivial ?_
  refine code_seq ?_
  refine code_ops _ rfl ?_
  refine ol_pure rfl rfl rfl (pure_move rfl rfl) ?_
  refine ol_pure rfl rfl rfl (pure_call rfl rfl rfl (rvalid_call (by assumption) (by assumption)) hM0) ?_
  refine ol_pure rfl rfl rfl (pure_move rfl rfl) ?_
  refine ol_guard rfl (fun h1 => ?_) (fun h1 => ?_)
  · have h1' := h1; try simp only [decide_eq_true_eq, decide_eq_false_iff_not, Bool.not_eq_true', Bool.not_eq_false', Bool.and_eq_true, Bool.or_eq_true, Bool.and_eq_false_iff, List.length_map, Int.toNat_natCast] at h1'
    refine ol_pure_g rfl rfl h1 rfl rfl (pure_move rfl rfl) ?_
    refine ol_pure_g rfl rfl h1 rfl rfl (pure_geq rfl rfl rfl) ?_
    refine ol_pure rfl rfl rfl (pure_pick_t rfl rfl h1 rfl) ?_
    refine ol_pure rfl rfl rfl (pure_move rfl rfl) ?_
    refine ol_pick 27 [(0, _), (1, _), (2, _), (3, _), (15, _)] [] rfl ⟨rfl, rfl, rfl, rfl, rfl, trivial⟩ trivial ?_
    refine ol_guard rfl (fun h2 => ?_) (fun h2 => ?_)
    · have h2' := h2; try simp only [decide_eq_true_eq, decide_eq_false_iff_not, Bool.not_eq_true', Bool.not_eq_false', Bool.and_eq_true, Bool.or_eq_true, Bool.and_eq_false_iff, List.length_map, Int.toNat_natCast] at h2'
      refine ol_pick 27 [(0, _), (1, _), (2, _), (3, _), (15, _)] [] rfl ⟨rfl, rfl, rfl, rfl, rfl, trivial⟩ trivial ?_
      refine ol_pure_g rfl rfl h2 rfl rfl (pure_move rfl rfl) ?_
      refine ol_pure_g rfl rfl h2 rfl rfl (pure_leq rfl rfl rfl) ?_
      refine ol_pure rfl rfl rfl (pure_pick_t rfl rfl h2 rfl) ?_
      refine ol_pure rfl rfl rfl (pure_move rfl rfl) ?_
      refine ol_guard rfl (fun h3 => ?_) (fun h3 => ?_)
      · have h3' := h3; try simp only [decide_eq_true_eq, decide_eq_false_iff_not, Bool.not_eq_true', Bool.not_eq_false', Bool.and_eq_true, Bool.or_eq_true, Bool.and_eq_false_iff, List.length_map, Int.toNat_natCast] at h3'
        refine ol_pure_g rfl rfl h3 rfl rfl (pure_move rfl rfl) ?_
        refine ol_pure_g rfl rfl h3 rfl rfl (pure_move rfl rfl) ?_
        refine ol_pure_g rfl rfl h3 rfl rfl (pure_move rfl rfl) ?_
        refine ol_pick 27 [(3, _), (19, _), (20, _), (21, _), (22, _)] [] rfl ⟨rfl, rfl, rfl, rfl, rfl, trivial⟩ trivial ?_
        refine ol_pure_g rfl rfl h3 rfl rfl (pure_move rfl rfl) ?_
        refine ol_pure_g rfl rfl h3 rfl rfl (pure_call rfl rfl rfl (upto_call (by assumption) (by first | assumption | exact shortL.get (by assumption) _) (by first | assumption | exact shortL.get (by assumption) _) (by omega)) hM0) ?_
        refine ol_pure_g rfl rfl h3 rfl rfl (pure_eql rfl rfl rfl) ?_
        refine ol_pure rfl rfl rfl (pure_pick_t rfl rfl h3 rfl) ?_
        refine ol_pure rfl rfl rfl (pure_assign rfl rfl) ?_
        refine ol_nil ?_
        refine seq_pick 27 [(8, _)] [] rfl ⟨rfl, trivial⟩ trivial ?_
        refine code_ret ?_
        refine end_ret rfl ?_   -- end 1
        simp_all <;> (intros; omega)
      · have h3' := h3; try simp only [decide_eq_true_eq, decide_eq_false_iff_not, Bool.not_eq_true', Bool.not_eq_false', Bool.and_eq_true, Bool.or_eq_true, Bool.and_eq_false_iff, List.length_map, Int.toNat_natCast] at h3'
        refine ol_skip_g rfl rfl h3 rfl rfl ?_
        refine ol_skip_g rfl rfl h3 rfl rfl ?_
        refine ol_skip_g rfl rfl h3 rfl rfl ?_
        refine ol_pick 27 [(3, _), (19, _), (20, _), (21, _), (22, _)] [] rfl ⟨rfl, rfl, rfl, rfl, rfl, trivial⟩ trivial ?_
        refine ol_skip_g rfl rfl h3 rfl rfl ?_
        refine ol_skip_g rfl rfl h3 rfl rfl ?_
        refine ol_skip_g rfl rfl h3 rfl rfl ?_
        refine ol_pure rfl rfl rfl (pure_pick_f rfl rfl h3 rfl) ?_
        refine ol_pure rfl rfl rfl (pure_assign rfl rfl) ?_
        refine ol_nil ?_
        refine seq_pick 27 [(8, _)] [] rfl ⟨rfl, trivial⟩ trivial ?_
        refine code_ret ?_
        refine end_ret rfl ?_   -- end 2
        simp_all <;> (intros; omega)
    · have h2' := h2; try simp only [decide_eq_true_eq, decide_eq_false_iff_not, Bool.not_eq_true', Bool.not_eq_false', Bool.and_eq_true, Bool.or_eq_true, Bool.and_eq_false_iff, List.length_map, Int.toNat_natCast] at h2'
      refine ol_pick 27 [(0, _), (1, _), (2, _), (3, _), (15, _)] [] rfl ⟨rfl, rfl, rfl, rfl, rfl, trivial⟩ trivial ?_
      refine ol_skip_g rfl rfl h2 rfl rfl ?_
      refine ol_skip_g rfl rfl h2 rfl rfl ?_
      refine ol_pure rfl rfl rfl (pure_pick_f rfl rfl h2 rfl) ?_
      refine ol_pure rfl rfl rfl (pure_move rfl rfl) ?_
      refine ol_skip_g rfl rfl rfl rfl rfl ?_
      refine ol_skip_g rfl rfl rfl rfl rfl ?_
      refine ol_skip_g rfl rfl rfl rfl rfl ?_
      refine ol_pick 27 [(3, _), (19, _), (20, _), (21, _), (22, _)] [] rfl ⟨rfl, rfl, rfl, rfl, rfl, trivial⟩ trivial ?_
      refine ol_skip_g rfl rfl rfl rfl rfl ?_
      refine ol_skip_g rfl rfl rfl rfl rfl ?_
      refine ol_skip_g rfl rfl rfl rfl rfl ?_
      refine ol_pure rfl rfl rfl (pure_pick_f rfl rfl rfl rfl) ?_
      refine ol_pure rfl rfl rfl (pure_assign rfl rfl) ?_
      refine ol_nil ?_
      refine seq_pick 27 [(8, _)] [] rfl ⟨rfl, trivial⟩ trivial ?_
      refine code_ret ?_
      refine end_ret rfl ?_   -- end 3
      simp_all <;> (intros; omega)
  · have h1' := h1; try simp only [decide_eq_true_eq, decide_eq_false_iff_not, Bool.not_eq_true', Bool.not_eq_false', Bool.and_eq_true, Bool.or_eq_true, Bool.and_eq_false_iff, List.length_map, Int.toNat_natCast] at h1'
    refine ol_skip_g rfl rfl h1 rfl rfl ?_
    refine ol_skip_g rfl rfl h1 rfl rfl ?_
    refine ol_pure rfl rfl rfl (pure_pick_f rfl rfl h1 rfl) ?_
    refine ol_pure rfl rfl rfl (pure_move rfl rfl) ?_
    refine ol_pick 27 [(0, _), (1, _), (2, _), (3, _), (15, _)] [] rfl ⟨rfl, rfl, rfl, rfl, rfl, trivial⟩ trivial ?_
    refine ol_skip_g rfl rfl rfl rfl rfl ?_
    refine ol_skip_g rfl rfl rfl rfl rfl ?_
    refine ol_pure rfl rfl rfl (pure_pick_f rfl rfl rfl rfl) ?_
    refine ol_pure rfl rfl rfl (pure_move rfl rfl) ?_
    refine ol_skip_g rfl rfl rfl rfl rfl ?_
    refine ol_skip_g rfl rfl rfl rfl rfl ?_
    refine ol_skip_g rfl rfl rfl rfl rfl ?_
    refine ol_pick 27 [(3, _), (19, _), (20, _), (21, _), (22, _)] [] rfl ⟨rfl, rfl, rfl, rfl, rfl, trivial⟩ trivial ?_
    refine ol_skip_g rfl rfl rfl rfl rfl ?_
    refine ol_skip_g rfl rfl rfl rfl rfl ?_
    refine ol_skip_g rfl rfl rfl rfl rfl ?_
    refine ol_pure rfl rfl rfl (pure_pick_f rfl rfl rfl rfl) ?_
    refine ol_pure rfl rfl rfl (pure_assign rfl rfl) ?_
    refine ol_nil ?_
    refine seq_pick 27 [(8, _)] [] rfl ⟨rfl, trivial⟩ trivial ?_
    refine code_ret ?_
    refine end_ret rfl ?_   -- end 4
    simp_all <;> (intros; omega)

theorem fn22 : Fn1 Try.prog 22 Try.f22.ntmps 4 (Try.f22.body.getD .skip) := ⟨Try.f22, Try.func22, rfl, rfl, rfl, by kernel_rfl⟩
set_option maxRecDepth 100000 in
set_option maxHeartbeats 2000000 in
theorem rsection_call {a : List Letter} {w : List Int} (ha : a.length ≤ 1099511627776) (ht : ∀ x ∈ a, x.text.length ≤ 1099511627776) (hw : w.length ≤ 1099511627776) :
    CallF Try.prog 22 [letters a, ints w] (.p (int (if validA a = true then sectP a w else -1))) := by
  refine callF_of_code fn22 (Nat.le_of_ble_eq_true rfl) fun w0 M0 hM0 => ?_
  refine code_seq ?_
  refine code_ops _ rfl ?_
  refine ol_pure rfl rfl rfl (pure_assign rfl rfl) ?_
  refine ol_nil ?_
  refine seq_pick 18 [(0, _), (1, _)] [] rfl ⟨rfl, rfl, trivial⟩ trivial ?_
  refine code_seq ?_
  refine code_seq ?_
  refine code_ops _ rfl ?_
  refine ol_pure rfl rfl rfl (pure_move rfl rfl) ?_
  refine ol_pure rfl rfl rfl (pure_call rfl rfl rfl (rvalid_call (by assumption) (by assumption)) hM0) ?_
  refine ol_pure rfl rfl rfl (pure_not rfl rfl) ?_
  refine ol_nil ?_
  refine seq_pick 18 [(0, _), (1, _), (8, _)] [] rfl ⟨rfl, rfl, rfl, trivial⟩ trivial ?_
  refine code_cond rfl (fun h1 => ?_) (fun h1 => ?_)
  · try simp only [decide_eq_true_eq, decide_eq_false_iff_not, Bool.not_eq_true', Bool.not_eq_false', Bool.and_eq_true, Bool.or_eq_true, Bool.and_eq_false_iff, List.length_map, Int.toNat_natCast] at h1
    refine code_seq ?_
    refine code_ops _ rfl ?_
    refine ol_pure rfl rfl rfl (pure_assign rfl rfl) ?_
    refine ol_nil ?_
    refine seq_pick 18 [(4, _)] [] rfl ⟨rfl, trivial⟩ trivial ?_
    refine code_ret ?_
    refine seqQ_ret ?_
    refine end_ret rfl ?_   -- end 1
    rw [if_neg (by simp_all)]
  · try simp only [decide_eq_true_eq, decide_eq_false_iff_not, Bool.not_eq_true', Bool.not_eq_false', Bool.and_eq_true, Bool.or_eq_true, Bool.and_eq_false_iff, List.length_map, Int.toNat_natCast] at h1
    refine code_skip ?_
    refine seq_pick 18 [(0, _), (1, _)] [] rfl ⟨rfl, rfl, trivial⟩ trivial ?_
    refine code_seq ?_
    refine code_ops _ rfl ?_
    refine ol_pure rfl rfl rfl (pure_move rfl rfl) ?_
    refine ol_pure rfl rfl rfl (pure_move rfl rfl) ?_
    refine ol_pure rfl rfl rfl (pure_call rfl rfl rfl (level_call (by assumption) (by assumption)) hM0) ?_
    refine ol_pure rfl rfl rfl (pure_assign rfl rfl) ?_
    refine ol_nil ?_
    refine seq_pick 18 [(5, _)] [] rfl ⟨rfl, trivial⟩ trivial ?_
    refine code_seq ?_
    refine code_seq ?_
    refine code_ops _ rfl ?_
    refine ol_pure rfl rfl rfl (pure_move rfl rfl) ?_
    refine ol_pure rfl rfl rfl (pure_lenm rfl Try.underlying22 rfl) ?_
    refine ol_pure rfl rfl rfl (pure_eql rfl rfl rfl) ?_
    refine ol_nil ?_
    refine seq_pick 18 [(5, _), (14, _)] [] rfl ⟨rfl, rfl, trivial⟩ trivial ?_
    refine code_cond rfl (fun h2 => ?_) (fun h2 => ?_)
    · try simp only [decide_eq_true_eq, decide_eq_false_iff_not, Bool.not_eq_true', Bool.not_eq_false', Bool.and_eq_true, Bool.or_eq_true, Bool.and_eq_false_iff, List.length_map, Int.toNat_natCast] at h2
      refine code_seq ?_
      refine code_ops _ rfl ?_
      refine ol_pure rfl rfl rfl (pure_assign rfl rfl) ?_
      refine ol_nil ?_
      refine seq_pick 18 [(4, _)] [] rfl ⟨rfl, trivial⟩ trivial ?_
      refine code_ret ?_
      refine seqQ_ret ?_
      refine end_ret rfl ?_   -- end 2
      rw [if_pos (by simpa using h1)]; unfold sectP; rw [List.eq_nil_of_length_eq_zero (show (level a w 1).length = 0 by omega)]; rfl
    · try simp only [decide_eq_true_eq, decide_eq_false_iff_not, Bool.not_eq_true', Bool.not_eq_false', Bool.and_eq_true, Bool.or_eq_true, Bool.and_eq_false_iff, List.length_map, Int.toNat_natCast] at h2
      refine code_skip ?_
      refine seq_pick 18 [(5, _)] [] rfl ⟨rfl, trivial⟩ trivial ?_
      refine code_seq ?_
      refine code_ops _ rfl ?_
      refine ol_pure rfl rfl rfl (pure_move rfl rfl) ?_
      first | refine ol_pure rfl rfl rfl (pure_indexn rfl Try.underlying22 sz3 rfl rfl (by omega) (fun _ => rfl)) ?_ | refine ol_pure rfl rfl rfl (pure_indexm rfl Try.underlying22 sz3 rfl rfl (by omega) (fun _ => rfl)) ?_
      refine ol_pure rfl rfl rfl (pure_load rfl ag3 rfl rfl) ?_
      refine ol_pure rfl rfl rfl (pure_assign rfl rfl) ?_
      refine ol_nil ?_
      refine seq_pick 18 [(4, _)] [] rfl ⟨rfl, trivial⟩ trivial ?_
      refine code_ret ?_
      refine end_ret rfl ?_   -- end 3
      rw [if_pos (by simpa using h1)]; unfold sectP
      cases hl : level a w 1 with
      | nil => rw [hl] at h2; simp at h2
      | cons x y => rfl
end Go.Proofs.Ytcimmcjnkphagaa
