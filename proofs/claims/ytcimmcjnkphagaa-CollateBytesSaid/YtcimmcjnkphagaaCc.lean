/-
  Contracts: letters that are valid, by the reference.
-/
import Derived.Test.YtcimmcjnkphagaaTy
import Derived.Test.YtcimmcjnkphagaaPc
namespace Go.Proofs.Ytcimmcjnkphagaa
open Go.Am Go.Wb
set_option linter.unusedVariables false
set_option linter.unusedSimpArgs false

theorem fn68 : Fn1 Try.prog 68 Try.f68.ntmps 2 (Try.f68.body.getD .skip) := ⟨Try.f68, Try.func68, rfl, rfl, rfl, by kernel_rfl⟩
set_option maxRecDepth 100000 in
set_option maxHeartbeats 2000000 in
theorem reserved_call {c : UInt8} : CallF Try.prog 68 [byte c] (.p (bool (resB c))) := by
  refine callF_of_code fn68 (Nat.le_of_ble_eq_true rfl) fun w0 M0 hM0 => ?_
  refine code_seq ?_
  refine code_ops _ rfl ?_
  refine ol_pure rfl rfl rfl (pure_assign rfl rfl) ?_
  refine ol_nil ?_
  refine seq_pick 14 [(0, _)] [] rfl ⟨rfl, trivial⟩ trivial ?_
  refine code_seq ?_
  refine code_seq ?_
  refine code_ops _ rfl ?_
  refine ol_pure rfl rfl rfl (pure_assign rfl rfl) ?_
  refine ol_nil ?_
  refine seq_pick 14 [(0, _), (3, _)] [] rfl ⟨rfl, rfl, trivial⟩ trivial ?_
  refine code_block ?_
  refine code_loopM (fun zm zs => ∃ k : Nat, zm = 30 - k ∧ (k ≤ 30) ∧ ((resL.take k).contains c = false) ∧ zs = ⟨14, [(0, .v .mx (byte c)), (3, .v .pl (int k))], []⟩) (loop_init (n := 14) (l := [(0, _), (3, _)]) (o' := []) rfl ⟨rfl, rfl, trivial⟩ trivial ?_) ?_
  · exact ⟨_, 0, rfl, Nat.zero_le _, rfl, rfl⟩
  · rintro zm zs ⟨k, rfl, hL1_0, hL1_1, rfl⟩
    refine code_seq ?_
    refine code_seq ?_
    refine code_ops _ rfl ?_
    refine ol_pure rfl rfl rfl (pure_move rfl rfl) ?_
    refine ol_pure rfl rfl rfl (pure_lss rfl rfl rfl) ?_
    refine ol_nil ?_
    refine seq_pick 14 [(0, _), (3, _), (5, _)] [] rfl ⟨rfl, rfl, rfl, trivial⟩ trivial ?_
    refine code_cond rfl (fun h1 => ?_) (fun h1 => ?_)
    · try simp only [decide_eq_true_eq, decide_eq_false_iff_not, Bool.not_eq_true', Bool.not_eq_false', Bool.and_eq_true, Bool.or_eq_true, Bool.and_eq_false_iff, List.length_map, Int.toNat_natCast] at h1
      refine code_skip ?_
      refine seq_pick 14 [(0, _), (3, _)] [] rfl ⟨rfl, rfl, trivial⟩ trivial ?_
      refine code_seq ?_
      refine code_block ?_
      refine code_seq ?_
      refine code_ops _ rfl ?_
      refine ol_pure rfl rfl rfl (pure_move rfl rfl) ?_
      refine ol_pure rfl rfl rfl (pure_sindex rfl Try.underlying9 rfl rfl (by refine ⟨by omega, ?_⟩; simp only [List.length_cons, List.length_nil]; omega)) ?_
      refine ol_pure rfl rfl rfl (pure_move rfl rfl) ?_
      refine ol_pure rfl rfl rfl (pure_eql rfl rfl rfl) ?_
      refine ol_nil ?_
      refine seq_pick 14 [(0, _), (3, _), (11, _)] [] rfl ⟨rfl, rfl, rfl, trivial⟩ trivial ?_
      refine code_cond rfl (fun h2 => ?_) (fun h2 => ?_)
      · try simp only [decide_eq_true_eq, decide_eq_false_iff_not, Bool.not_eq_true', Bool.not_eq_false', Bool.and_eq_true, Bool.or_eq_true, Bool.and_eq_false_iff, List.length_map, Int.toNat_natCast] at h2
        refine code_seq ?_
        refine code_ops _ rfl ?_
        refine ol_pure rfl rfl rfl (pure_assign rfl rfl) ?_
        refine ol_nil ?_
        refine seq_pick 14 [(2, _)] [] rfl ⟨rfl, trivial⟩ trivial ?_
        refine code_ret ?_
        refine blockQ_ret ?_
        refine seqQ_ret ?_
        refine loopM_ret ?_
        refine blockQ_ret ?_
        refine seqQ_ret ?_
        refine end_ret rfl ?_   -- end 1
        rw [resB_hit (k := k) (by omega) h2]
      · try simp only [decide_eq_true_eq, decide_eq_false_iff_not, Bool.not_eq_true', Bool.not_eq_false', Bool.and_eq_true, Bool.or_eq_true, Bool.and_eq_false_iff, List.length_map, Int.toNat_natCast] at h2
        refine code_skip ?_
        refine blockQ_normal ?_
        refine seq_pick 14 [(0, _), (3, _)] [] rfl ⟨rfl, rfl, trivial⟩ trivial ?_
        refine code_ops _ rfl ?_
        refine ol_pure rfl rfl rfl (pure_move rfl rfl) ?_
        refine ol_pure rfl rfl rfl (pure_addi rfl rfl rfl (by omega)) ?_
        refine ol_pure rfl rfl rfl (pure_assign rfl rfl) ?_
        refine ol_nil ?_
        refine loop_next (n := 14) (l := [(0, _), (3, _)]) (o' := []) rfl ⟨rfl, rfl, trivial⟩ trivial ?_   -- loop 1 end 1
        exact ⟨_, ⟨k + 1, rfl, by omega, resB_step (by omega) hL1_1 h2, rfl⟩, by omega⟩
    · try simp only [decide_eq_true_eq, decide_eq_false_iff_not, Bool.not_eq_true', Bool.not_eq_false', Bool.and_eq_true, Bool.or_eq_true, Bool.and_eq_false_iff, List.length_map, Int.toNat_natCast] at h1
      refine code_exit ?_
      refine seqQ_exit ?_
      refine loopM_exit ?_
      refine blockQ_same ?_
      refine seq_pick 14 [(0, _)] [] rfl ⟨rfl, trivial⟩ trivial ?_
      refine code_seq ?_
      refine code_ops _ rfl ?_
      refine ol_pure rfl rfl rfl (pure_move rfl rfl) ?_
      refine ol_pure rfl rfl rfl (pure_lss rfl rfl rfl) ?_
      refine ol_pure rfl rfl rfl (pure_assign rfl rfl) ?_
      refine ol_nil ?_
      refine seq_pick 14 [(2, _)] [] rfl ⟨rfl, trivial⟩ trivial ?_
      refine code_ret ?_
      refine end_ret rfl ?_   -- end 2
      rw [resB_end (k := k) (by omega) hL1_1]

theorem fn58 : Fn1 Try.prog 58 Try.f58.ntmps 2 (Try.f58.body.getD .skip) := ⟨Try.f58, Try.func58, rfl, rfl, rfl, by kernel_rfl⟩
set_option maxRecDepth 100000 in
set_option maxHeartbeats 2000000 in
theorem plain_call {s : List UInt8} (hs : s.length ≤ 1099511627776) : CallF Try.prog 58 [sbytes s] (.p (bool (plainT s))) := by
  refine callF_of_code fn58 (Nat.le_of_ble_eq_true rfl) fun w0 M0 hM0 => ?_
  refine code_seq ?_
  refine code_ops _ rfl ?_
  refine ol_pure rfl rfl rfl (pure_assign rfl rfl) ?_
  refine ol_nil ?_
  refine seq_pick 22 [(0, _)] [] rfl ⟨rfl, trivial⟩ trivial ?_
  refine code_seq ?_
  refine code_seq ?_
  refine code_ops _ rfl ?_
  refine ol_pure rfl rfl rfl (pure_assign rfl rfl) ?_
  refine ol_nil ?_
  refine seq_pick 22 [(0, _), (3, _)] [] rfl ⟨rfl, rfl, trivial⟩ trivial ?_
  refine code_block ?_
  refine code_loopM (fun zm zs => ∃ k : Nat, zm = s.length - k ∧ (k ≤ s.length) ∧ ((s.take k).all (fun c => !resB c) = true) ∧ zs = ⟨22, [(0, .v .mx (sbytes s)), (3, .v .pl (int k))], []⟩) (loop_init (n := 22) (l := [(0, _), (3, _)]) (o' := []) rfl ⟨rfl, rfl, trivial⟩ trivial ?_) ?_
  · exact ⟨_, 0, rfl, Nat.zero_le _, rfl, rfl⟩
  · rintro zm zs ⟨k, rfl, hL1_0, hL1_1, rfl⟩
    refine code_seq ?_
    refine code_seq ?_
    refine code_ops _ rfl ?_
    refine ol_pure rfl rfl rfl (pure_move rfl rfl) ?_
    refine ol_pure rfl rfl rfl (pure_move rfl rfl) ?_
    refine ol_pure rfl rfl rfl (pure_slen rfl Try.underlying9 rfl) ?_
    refine ol_pure rfl rfl rfl (pure_lss rfl rfl rfl) ?_
    refine ol_nil ?_
    refine seq_pick 22 [(0, _), (3, _), (7, _)] [] rfl ⟨rfl, rfl, rfl, trivial⟩ trivial ?_
    refine code_cond rfl (fun h1 => ?_) (fun h1 => ?_)
    · try simp only [decide_eq_true_eq, decide_eq_false_iff_not, Bool.not_eq_true', Bool.not_eq_false', Bool.and_eq_true, Bool.or_eq_true, Bool.and_eq_false_iff, List.length_map, Int.toNat_natCast] at h1
      refine code_skip ?_
      refine seq_pick 22 [(0, _), (3, _)] [] rfl ⟨rfl, rfl, trivial⟩ trivial ?_
      refine code_seq ?_
      refine code_block ?_
      refine code_seq ?_
      refine code_ops _ rfl ?_
      refine ol_pure rfl rfl rfl (pure_move rfl rfl) ?_
      refine ol_pure rfl rfl rfl (pure_move rfl rfl) ?_
      refine ol_pure rfl rfl rfl (pure_sindex rfl Try.underlying9 rfl rfl (by omega)) ?_
      refine ol_pure rfl rfl rfl (pure_call rfl rfl rfl (reserved_call) hM0) ?_
      refine ol_nil ?_
      refine seq_pick 22 [(0, _), (3, _), (13, _)] [] rfl ⟨rfl, rfl, rfl, trivial⟩ trivial ?_
      refine code_cond rfl (fun h2 => ?_) (fun h2 => ?_)
      · try simp only [decide_eq_true_eq, decide_eq_false_iff_not, Bool.not_eq_true', Bool.not_eq_false', Bool.and_eq_true, Bool.or_eq_true, Bool.and_eq_false_iff, List.length_map, Int.toNat_natCast] at h2
        refine code_seq ?_
        refine code_ops _ rfl ?_
        refine ol_pure rfl rfl rfl (pure_assign rfl rfl) ?_
        refine ol_nil ?_
        refine seq_pick 22 [(2, _)] [] rfl ⟨rfl, trivial⟩ trivial ?_
        refine code_ret ?_
        refine blockQ_ret ?_
        refine seqQ_ret ?_
        refine loopM_ret ?_
        refine blockQ_ret ?_
        refine seqQ_ret ?_
        refine end_ret rfl ?_   -- end 1
        rw [plainT_hit (k := k) (by omega) h2]
      · try simp only [decide_eq_true_eq, decide_eq_false_iff_not, Bool.not_eq_true', Bool.not_eq_false', Bool.and_eq_true, Bool.or_eq_true, Bool.and_eq_false_iff, List.length_map, Int.toNat_natCast] at h2
        refine code_skip ?_
        refine blockQ_normal ?_
        refine seq_pick 22 [(0, _), (3, _)] [] rfl ⟨rfl, rfl, trivial⟩ trivial ?_
        refine code_ops _ rfl ?_
        refine ol_pure rfl rfl rfl (pure_move rfl rfl) ?_
        refine ol_pure rfl rfl rfl (pure_addi rfl rfl rfl (by omega)) ?_
        refine ol_pure rfl rfl rfl (pure_assign rfl rfl) ?_
        refine ol_nil ?_
        refine loop_next (n := 22) (l := [(0, _), (3, _)]) (o' := []) rfl ⟨rfl, rfl, trivial⟩ trivial ?_   -- loop 1 end 1
        exact ⟨_, ⟨k + 1, rfl, by omega, plainT_step (by omega) hL1_1 h2, rfl⟩, by omega⟩
    · try simp only [decide_eq_true_eq, decide_eq_false_iff_not, Bool.not_eq_true', Bool.not_eq_false', Bool.and_eq_true, Bool.or_eq_true, Bool.and_eq_false_iff, List.length_map, Int.toNat_natCast] at h1
      refine code_exit ?_
      refine seqQ_exit ?_
      refine loopM_exit ?_
      refine blockQ_same ?_
      refine seq_pick 22 [(0, _)] [] rfl ⟨rfl, trivial⟩ trivial ?_
      refine code_seq ?_
      refine code_ops _ rfl ?_
      refine ol_pure rfl rfl rfl (pure_move rfl rfl) ?_
      refine ol_pure rfl rfl rfl (pure_slen rfl Try.underlying9 rfl) ?_
      refine ol_pure rfl rfl rfl (pure_geq rfl rfl rfl) ?_
      refine ol_pure rfl rfl rfl (pure_move rfl rfl) ?_
      refine ol_guard rfl (fun h3 => ?_) (fun h3 => ?_)
      · have h3' := h3; try simp only [decide_eq_true_eq, decide_eq_false_iff_not, Bool.not_eq_true', Bool.not_eq_false', Bool.and_eq_true, Bool.or_eq_true, Bool.and_eq_false_iff, List.length_map, Int.toNat_natCast] at h3'
        refine ol_pure_g rfl rfl h3 rfl rfl (pure_move rfl rfl) ?_
        refine ol_pure_g rfl rfl h3 rfl rfl (pure_slen rfl Try.underlying9 rfl) ?_
        refine ol_pure_g rfl rfl h3 rfl rfl (pure_leq rfl rfl rfl) ?_
        refine ol_pure rfl rfl rfl (pure_pick_t rfl rfl h3 rfl) ?_
        refine ol_pure rfl rfl rfl (pure_assign rfl rfl) ?_
        refine ol_nil ?_
        refine seq_pick 22 [(2, _)] [] rfl ⟨rfl, trivial⟩ trivial ?_
        refine code_ret ?_
        refine end_ret rfl ?_   -- end 2
        rw [plainT_end (k := k) (by omega) hL1_1]
        first | (rw [decide_eq_false (p := 1 ≤ s.length) (by omega)]; rfl) | (rw [decide_eq_true (p := 1 ≤ s.length) (by omega), Bool.true_and]; congr 4; apply propext; omega)
      · have h3' := h3; try simp only [decide_eq_true_eq, decide_eq_false_iff_not, Bool.not_eq_true', Bool.not_eq_false', Bool.and_eq_true, Bool.or_eq_true, Bool.and_eq_false_iff, List.length_map, Int.toNat_natCast] at h3'
        refine ol_skip_g rfl rfl h3 rfl rfl ?_
        refine ol_skip_g rfl rfl h3 rfl rfl ?_
        refine ol_skip_g rfl rfl h3 rfl rfl ?_
        refine ol_pure rfl rfl rfl (pure_pick_f rfl rfl h3 rfl) ?_
        refine ol_pure rfl rfl rfl (pure_assign rfl rfl) ?_
        refine ol_nil ?_
        refine seq_pick 22 [(2, _)] [] rfl ⟨rfl, trivial⟩ trivial ?_
        refine code_ret ?_
        refine end_ret rfl ?_   -- end 3
        rw [plainT_end (k := k) (by omega) hL1_1]
        first | (rw [decide_eq_false (p := 1 ≤ s.length) (by omega)]; rfl) | (rw [decide_eq_true (p := 1 ≤ s.length) (by omega), Bool.true_and]; congr 4; apply propext; omega)
end Go.Proofs.Ytcimmcjnkphagaa
