/-
  Contracts of spoilt alphabets.
-/
import Derived.Test.YtcimmcjnkphagaaCa
import Derived.Test.YtcimmcjnkphagaaTy
import Derived.Test.YtcimmcjnkphagaaPj
namespace Go.Proofs.Ytcimmcjnkphagaa
open Go.Am Go.Wb
set_option linter.unusedVariables false
set_option linter.unusedSimpArgs false
theorem fn39 : Fn1 Try.prog 39 Try.f39.ntmps 2 (Try.f39.body.getD .skip) := ⟨Try.f39, Try.func39, rfl, rfl, rfl, by kernel_rfl⟩
set_option maxRecDepth 100000 in
set_option maxHeartbeats 2000000 in
theorem many_call {n : Int} (hn : n ≤ 1000) : CallF Try.prog 39 [int n] (.fresh 48 ((manyA n.toNat).map letter)) := by
  refine callF_of_code fn39 (Nat.le_of_ble_eq_true rfl) fun w0 M0 hM0 => ?_
  refine code_seq ?_
  refine code_ops _ rfl ?_
  refine ol_step rfl (step_nil rfl rfl rfl rfl rfl 48 hM0) ?_
  refine ol_nil ?_
  refine seq_pick 26 [(0, _)] [] rfl ⟨rfl, trivial⟩ trivial ?_
  refine code_seq ?_
  refine code_ops _ rfl ?_
  refine ol_step rfl (step_nil rfl rfl rfl rfl rfl 48 hM0) ?_
  refine ol_nil ?_
  refine seq_pick 26 [(0, _), (3, _)] [(3, _)] rfl ⟨rfl, rfl, trivial⟩ ⟨rfl, trivial⟩ ?_
  refine code_seq ?_
  refine code_seq ?_
  refine code_ops _ rfl ?_
  refine ol_pure rfl rfl rfl (pure_assign rfl rfl) ?_
  refine ol_nil ?_
  refine seq_pick 26 [(0, _), (3, _), (4, _)] [(3, _)] rfl ⟨rfl, rfl, rfl, trivial⟩ ⟨rfl, trivial⟩ ?_
  refine code_block ?_
  refine code_loopM (fun zm zs => ∃ i : Nat, zm = n.toNat - i ∧ (i ≤ n.toNat) ∧ zs = ⟨26, [(0, .v .mx (int n)), (3, .own 3), (4, .v .pl (int i))], [(3, .arr 48 ((manyA i).map letter))]⟩) (loop_init (n := 26) (l := [(0, _), (3, _), (4, _)]) (o' := [(3, _)]) rfl ⟨rfl, rfl, rfl, trivial⟩ ⟨rfl, trivial⟩ ?_) ?_
  · exact ⟨_, 0, rfl, Nat.zero_le _, rfl⟩
  · rintro zm zs ⟨i, rfl, hL1_0, rfl⟩
    refine code_seq ?_
    refine code_seq ?_
    refine code_ops _ rfl ?_
    refine ol_pure rfl rfl rfl (pure_move rfl rfl) ?_
    refine ol_pure rfl rfl rfl (pure_move rfl rfl) ?_
    refine ol_pure rfl rfl rfl (pure_lss rfl rfl rfl) ?_
    refine ol_nil ?_
    refine seq_pick 26 [(0, _), (3, _), (4, _), (7, _)] [(3, _)] rfl ⟨rfl, rfl, rfl, rfl, trivial⟩ ⟨rfl, trivial⟩ ?_
    refine code_cond rfl (fun h1 => ?_) (fun h1 => ?_)
    · try simp only [decide_eq_true_eq, decide_eq_false_iff_not, Bool.not_eq_true', Bool.not_eq_false', Bool.and_eq_true, Bool.or_eq_true, Bool.and_eq_false_iff, List.length_map, Int.toNat_natCast] at h1
      refine code_skip ?_
      refine seq_pick 26 [(0, _), (3, _), (4, _)] [(3, _)] rfl ⟨rfl, rfl, rfl, trivial⟩ ⟨rfl, trivial⟩ ?_
      refine code_seq ?_
      refine code_block ?_
      refine code_ops _ rfl ?_
      refine ol_pure rfl rfl rfl (pure_move rfl rfl) ?_
      refine ol_pure rfl rfl rfl (pure_move rfl rfl) ?_
      refine ol_pure rfl rfl rfl (pure_quon rfl rfl rfl (by omega)) ?_
      refine ol_pure rfl rfl rfl (pure_addi rfl rfl rfl (by omega)) ?_
      refine ol_pure rfl rfl rfl (pure_conv rfl Try.underlying3 Try.underlying5 rfl) ?_
      refine ol_pure rfl rfl rfl (pure_move rfl rfl) ?_
      refine ol_pure rfl rfl rfl (pure_remn rfl rfl rfl (by omega)) ?_
      refine ol_pick 26 [(0, _), (4, _), (10, _), (14, _), (16, _)] [(3, _)] rfl ⟨rfl, rfl, rfl, rfl, rfl, trivial⟩ ⟨rfl, trivial⟩ ?_
      refine ol_pure rfl rfl rfl (pure_addi rfl rfl rfl (by omega)) ?_
      refine ol_pure rfl rfl rfl (pure_conv rfl Try.underlying3 Try.underlying5 rfl) ?_
      refine ol_pure rfl rfl rfl (pure_lit rfl Try.underlying53 el5 rfl rfl rfl rfl hM0) ?_
      refine ol_pure rfl rfl rfl (pure_btos rfl Try.underlying53 Try.underlying5 Try.underlying9 rfl rfl) ?_
      refine ol_pure rfl rfl rfl (pure_move rfl rfl) ?_
      refine ol_pure rfl rfl rfl (pure_build rfl pl48 ze48 rfl rfl rfl) ?_
      refine ol_pure rfl rfl rfl (pure_lit rfl Try.underlying24 el48 rfl rfl rfl rfl hM0) ?_
      refine ol_step rfl (step_append rfl rfl rfl rfl Try.underlying24 el48 rfl rfl hM0 (src_pl rfl (one_len (by rfl))) (by simp only [manyA, List.length_map, List.length_cons, List.length_nil, List.length_range]; omega) (by simp only [manyA, List.length_map, List.length_cons, List.length_nil, List.length_range]; omega)) ?_
      refine ol_pure rfl rfl rfl (pure_assign rfl rfl) ?_
      refine ol_nil ?_
      refine blockQ_normal ?_
      refine seq_pick 26 [(0, _), (3, _), (4, _)] [(3, _)] rfl ⟨rfl, rfl, rfl, trivial⟩ ⟨rfl, trivial⟩ ?_
      refine code_ops _ rfl ?_
      refine ol_pure rfl rfl rfl (pure_move rfl rfl) ?_
      refine ol_pure rfl rfl rfl (pure_addi rfl rfl rfl (by omega)) ?_
      refine ol_pure rfl rfl rfl (pure_assign rfl rfl) ?_
      refine ol_nil ?_
      refine loop_next (n := 26) (l := [(0, _), (3, _), (4, _)]) (o' := [(3, _)]) rfl ⟨rfl, rfl, rfl, trivial⟩ ⟨rfl, trivial⟩ ?_   -- loop 1 end 1
      exact ⟨_, ⟨i + 1, rfl, by omega, by rw [manyA_succ, List.map_append]; rfl⟩, by omega⟩
    · try simp only [decide_eq_true_eq, decide_eq_false_iff_not, Bool.not_eq_true', Bool.not_eq_false', Bool.and_eq_true, Bool.or_eq_true, Bool.and_eq_false_iff, List.length_map, Int.toNat_natCast] at h1
      refine code_exit ?_
      refine seqQ_exit ?_
      refine loopM_exit ?_
      refine blockQ_same ?_
      refine seq_pick 26 [(3, _)] [(3, _)] rfl ⟨rfl, trivial⟩ ⟨rfl, trivial⟩ ?_
      refine code_seq ?_
      refine code_ops _ rfl ?_
      refine ol_pure rfl rfl rfl (pure_move rfl rfl) ?_
      refine ol_pure rfl rfl rfl (pure_assign rfl rfl) ?_
      refine ol_nil ?_
      refine seq_pick 26 [(2, _)] [(3, _)] rfl ⟨rfl, trivial⟩ ⟨rfl, trivial⟩ ?_
      refine code_ret ?_
      refine end_ret rfl ?_   -- end 1
      rw [show i = n.toNat by omega]
theorem fn13 : Fn1 Try.prog 13 Try.f13.ntmps 8 (Try.f13.body.getD .skip) := ⟨Try.f13, Try.func13, rfl, rfl, rfl, by kernel_rfl⟩
set_option maxRecDepth 100000 in
set_option maxHeartbeats 4000000 in
theorem spoilt_call {a : List Letter} {ati how bye : Int} (ha : a.length ≤ 1099511627776) (ha0 : 0 < a.length) (h1 : I64 ati) (h2 : I64 how) (h3 : I64 bye) :
    CallF Try.prog 13 [letters a, int ati, int how, int bye] (.p (letters (spoiltP a ati how bye))) := by
  have k1 := around_lt (n := ati) (most := a.length) (by omega)
  have k2 := around_lt (n := bye) (most := 4) (by omega)
  have k3 := around_lt (n := bye) (most := 256) (by omega)
  have k4 := around_lt (n := bye) (most := 18) (by omega)
  have k5 := around_lt (n := bye) (most := 5) (by omega)
  have k7 := And.intro (Int.emod_nonneg (around ati a.length + 1) (show (a.length : Int) ≠ 0 by omega)) (Int.emod_lt_of_pos (around ati a.length + 1) (show (0 : Int) < a.length by omega))
  have k6 := around_lt (n := bye) (most := (a.length : Int) + 1) (by omega)
  refine callF_of_code fn13 (Nat.le_of_ble_eq_true rfl) fun w0 M0 hM0 => ?_
  refine code_seq ?_
  refine code_ops _ rfl ?_
  refine ol_pure rfl rfl rfl (pure_assign rfl rfl) ?_
  refine ol_nil ?_
  refine seq_pick 135 [(0, _), (1, _), (2, _), (3, _)] [] rfl ⟨rfl, rfl, rfl, rfl, trivial⟩ trivial ?_
  refine code_seq ?_
  refine code_ops _ rfl ?_
  refine ol_step rfl (step_nil rfl rfl rfl rfl rfl 48 hM0) ?_
  refine ol_nil ?_
  refine seq_pick 135 [(0, _), (1, _), (2, _), (3, _), (9, _)] [(9, _)] rfl ⟨rfl, rfl, rfl, rfl, rfl, trivial⟩ ⟨rfl, trivial⟩ ?_
  refine code_seq ?_
  refine code_ops _ rfl ?_
  refine ol_pure rfl rfl rfl (pure_move rfl rfl) ?_
  refine ol_pure rfl rfl rfl (pure_move rfl rfl) ?_
  refine ol_step rfl (step_append rfl rfl rfl rfl Try.underlying24 el48 rfl rfl hM0 (src_sc rfl (map_len fun _ => rfl) (letters_flat a)) (by first | (simp only [List.length_map, List.length_append, List.length_cons, List.length_nil, List.length_set, List.length_replicate, List.length_take, List.length_drop, List.length_range]; omega) | omega) (by first | (simp only [List.length_map, List.length_append, List.length_cons, List.length_nil, List.length_set, List.length_replicate, List.length_take, List.length_drop, List.length_range]; omega) | omega)) ?_
  refine ol_pure rfl rfl rfl (pure_assign rfl rfl) ?_
  refine ol_nil ?_
  refine seq_pick 135 [(1, _), (2, _), (3, _), (9, _)] [(9, _)] rfl ⟨rfl, rfl, rfl, rfl, trivial⟩ ⟨rfl, trivial⟩ ?_
  refine code_seq ?_
  refine code_ops _ rfl ?_
  refine ol_pure rfl rfl rfl (pure_move rfl rfl) ?_
  refine ol_pure rfl rfl rfl (pure_move rfl rfl) ?_
  refine ol_pure rfl rfl rfl (pure_lenm rfl Try.underlying24 rfl) ?_
  refine ol_pure rfl rfl rfl (pure_call rfl rfl rfl (around_call (by assumption) (by omega)) hM0) ?_
  refine ol_pure rfl rfl rfl (pure_assign rfl rfl) ?_
  refine ol_nil ?_
  refine seq_pick 135 [(2, _), (3, _), (9, _), (10, _)] [(9, _)] rfl ⟨rfl, rfl, rfl, rfl, trivial⟩ ⟨rfl, trivial⟩ ?_
  refine code_seq ?_
  refine code_seq ?_
  refine code_ops _ rfl ?_
  refine ol_pure rfl rfl rfl (pure_move rfl rfl) ?_
  refine ol_pure rfl rfl rfl (pure_call rfl rfl rfl (around_call (by assumption) (by omega)) hM0) ?_
  refine ol_nil ?_
  refine seq_pick 135 [(3, _), (9, _), (10, _), (19, _)] [(9, _)] rfl ⟨rfl, rfl, rfl, rfl, trivial⟩ ⟨rfl, trivial⟩ ?_
  refine code_block ?_
  refine code_seq ?_
  refine code_ops _ rfl ?_
  refine ol_pure rfl rfl rfl (pure_eql rfl rfl rfl) ?_
  refine ol_pure rfl rfl rfl (pure_assign rfl rfl) ?_
  refine ol_nil ?_
  refine seq_pick 135 [(3, _), (9, _), (10, _), (19, _), (23, _)] [(9, _)] rfl ⟨rfl, rfl, rfl, rfl, rfl, trivial⟩ ⟨rfl, trivial⟩ ?_
  refine code_cond rfl (fun h1 => ?_) (fun h1 => ?_)
  · try simp only [decide_eq_true_eq, decide_eq_false_iff_not, Bool.not_eq_true', Bool.not_eq_false', Bool.and_eq_true, Bool.or_eq_true, Bool.and_eq_false_iff, List.length_map, Int.toNat_natCast] at h1
    refine code_ops _ rfl ?_
    refine ol_pure rfl rfl rfl (pure_move rfl rfl) ?_
    refine ol_pure rfl rfl rfl (pure_move rfl rfl) ?_
    refine ol_pure rfl rfl rfl (pure_index_own rfl Try.underlying24 sz48 rfl rfl rfl (by first | (simp only [List.length_map, List.length_append, List.length_cons, List.length_nil, List.length_set, List.length_replicate, List.length_take, List.length_drop, List.length_range]; omega) | omega)) ?_
    refine ol_pure rfl rfl rfl (pure_field_pel rfl fd48_0 rfl rfl) ?_
    refine ol_step rfl (step_store_pel rfl rfl rfl sz9 rfl rfl (mget (by first | (simp only [List.length_map, List.length_append, List.length_cons, List.length_nil, List.length_set, List.length_replicate, List.length_take, List.length_drop, List.length_range]; omega) | omega)) rfl rfl (.inl rfl) rfl (Nat.le_of_ble_eq_true rfl) hM0) ?_
    refine ol_nil ?_
    refine blockQ_normal ?_
    refine seq_pick 135 [(9, _)] [(9, _)] rfl ⟨rfl, trivial⟩ ⟨rfl, trivial⟩ ?_
    refine code_seq ?_
    refine code_frz 135 [(9, _)] [] hM0 rfl ⟨.inr ⟨_, _, rfl, rfl, rfl⟩, trivial⟩ trivial ?_
    refine code_ops _ rfl ?_
    refine ol_pure rfl rfl rfl (pure_move rfl rfl) ?_
    refine ol_pure rfl rfl rfl (pure_assign rfl rfl) ?_
    refine ol_nil ?_
    refine seq_pick 135 [(8, _)] [] rfl ⟨rfl, trivial⟩ trivial ?_
    refine code_ret ?_
    refine end_ret rfl ?_   -- end 1
    unfold spoiltP
    repeat (first | rw [if_pos (by assumption)] | rw [if_neg (by assumption)])
    try rw [letters, List.map_set]
    try rw [letters, List.map_take]
    try rfl
  · try simp only [decide_eq_true_eq, decide_eq_false_iff_not, Bool.not_eq_true', Bool.not_eq_false', Bool.and_eq_true, Bool.or_eq_true, Bool.and_eq_false_iff, List.length_map, Int.toNat_natCast] at h1
    refine code_seq ?_
    refine code_ops _ rfl ?_
    refine ol_pure rfl rfl rfl (pure_eql rfl rfl rfl) ?_
    refine ol_pure rfl rfl rfl (pure_assign rfl rfl) ?_
    refine ol_nil ?_
    refine seq_pick 135 [(3, _), (9, _), (10, _), (19, _), (29, _)] [(9, _)] rfl ⟨rfl, rfl, rfl, rfl, rfl, trivial⟩ ⟨rfl, trivial⟩ ?_
    refine code_cond rfl (fun h2 => ?_) (fun h2 => ?_)
    · try simp only [decide_eq_true_eq, decide_eq_false_iff_not, Bool.not_eq_true', Bool.not_eq_false', Bool.and_eq_true, Bool.or_eq_true, Bool.and_eq_false_iff, List.length_map, Int.toNat_natCast] at h2
      refine code_ops _ rfl ?_
      refine ol_pure rfl rfl rfl (pure_move rfl rfl) ?_
      refine ol_pure rfl rfl rfl (pure_move rfl rfl) ?_
      refine ol_pure rfl rfl rfl (pure_move rfl rfl) ?_
      refine ol_pure rfl rfl rfl (pure_move rfl rfl) ?_
      refine ol_pure rfl rfl rfl (pure_addi rfl rfl rfl (by omega)) ?_
      refine ol_pure rfl rfl rfl (pure_move rfl rfl) ?_
      refine ol_pure rfl rfl rfl (pure_lenm rfl Try.underlying24 rfl) ?_
      refine ol_pick 135 [(9, _), (31, _), (32, _), (33, _), (35, _), (37, _)] [(9, _)] rfl ⟨rfl, rfl, rfl, rfl, rfl, rfl, trivial⟩ ⟨rfl, trivial⟩ ?_
      refine ol_pure rfl rfl rfl (pure_remn rfl rfl rfl (by omega)) ?_
      refine ol_pure rfl rfl rfl (pure_index_own rfl Try.underlying24 sz48 rfl rfl rfl (by first | (simp only [List.length_map, List.length_append, List.length_cons, List.length_nil, List.length_set, List.length_replicate, List.length_take, List.length_drop, List.length_range]; omega) | omega)) ?_
      refine ol_pure rfl rfl rfl (pure_field_pel rfl fd48_0 rfl rfl) ?_
      refine ol_pure rfl rfl rfl (pure_load_pel rfl ag9 rfl rfl (mget (by first | (simp only [List.length_map, List.length_append, List.length_cons, List.length_nil, List.length_set, List.length_replicate, List.length_take, List.length_drop, List.length_range]; omega) | omega)) rfl) ?_
      refine ol_pure rfl rfl rfl (pure_index_own rfl Try.underlying24 sz48 rfl rfl rfl (by first | (simp only [List.length_map, List.length_append, List.length_cons, List.length_nil, List.length_set, List.length_replicate, List.length_take, List.length_drop, List.length_range]; omega) | omega)) ?_
      refine ol_pure rfl rfl rfl (pure_field_pel rfl fd48_0 rfl rfl) ?_
      refine ol_step rfl (step_store_pel rfl rfl rfl sz9 rfl rfl (mget (by first | (simp only [List.length_map, List.length_append, List.length_cons, List.length_nil, List.length_set, List.length_replicate, List.length_take, List.length_drop, List.length_range]; omega) | omega)) rfl rfl (.inl rfl) rfl (Nat.le_of_ble_eq_true rfl) hM0) ?_
      refine ol_nil ?_
      refine blockQ_normal ?_
      refine seq_pick 135 [(9, _)] [(9, _)] rfl ⟨rfl, trivial⟩ ⟨rfl, trivial⟩ ?_
      refine code_seq ?_
      refine code_frz 135 [(9, _)] [] hM0 rfl ⟨.inr ⟨_, _, rfl, rfl, rfl⟩, trivial⟩ trivial ?_
      refine code_ops _ rfl ?_
      refine ol_pure rfl rfl rfl (pure_move rfl rfl) ?_
      refine ol_pure rfl rfl rfl (pure_assign rfl rfl) ?_
      refine ol_nil ?_
      refine seq_pick 135 [(8, _)] [] rfl ⟨rfl, trivial⟩ trivial ?_
      refine code_ret ?_
      refine end_ret rfl ?_   -- end 2
      unfold spoiltP
      repeat (first | rw [if_pos (by assumption)] | rw [if_neg (by assumption)])
      try rw [letters, List.map_set]
      try rw [letters, List.map_take]
      try rfl
    · try simp only [decide_eq_true_eq, decide_eq_false_iff_not, Bool.not_eq_true', Bool.not_eq_false', Bool.and_eq_true, Bool.or_eq_true, Bool.and_eq_false_iff, List.length_map, Int.toNat_natCast] at h2
      refine code_seq ?_
      refine code_ops _ rfl ?_
      refine ol_pure rfl rfl rfl (pure_eql rfl rfl rfl) ?_
      refine ol_pure rfl rfl rfl (pure_assign rfl rfl) ?_
      refine ol_nil ?_
      refine seq_pick 135 [(3, _), (9, _), (10, _), (19, _), (44, _)] [(9, _)] rfl ⟨rfl, rfl, rfl, rfl, rfl, trivial⟩ ⟨rfl, trivial⟩ ?_
      refine code_cond rfl (fun h3 => ?_) (fun h3 => ?_)
      · try simp only [decide_eq_true_eq, decide_eq_false_iff_not, Bool.not_eq_true', Bool.not_eq_false', Bool.and_eq_true, Bool.or_eq_true, Bool.and_eq_false_iff, List.length_map, Int.toNat_natCast] at h3
        refine code_ops _ rfl ?_
        refine ol_pure rfl rfl rfl (pure_move rfl rfl) ?_
        refine ol_pure rfl rfl rfl (pure_move rfl rfl) ?_
        refine ol_pure rfl rfl rfl (pure_move rfl rfl) ?_
        refine ol_pure rfl rfl rfl (pure_call rfl rfl rfl (around_call (by assumption) (by omega)) hM0) ?_
        refine ol_pure rfl rfl rfl (pure_addi rfl rfl rfl (by omega)) ?_
        refine ol_pure rfl rfl rfl (pure_sslice_h rfl Try.underlying9 rfl rfl (by simp only [List.length_cons, List.length_nil]; omega)) ?_
        refine ol_pure rfl rfl rfl (pure_sadd rfl rfl rfl (by simp only [List.length_take, List.length_cons, List.length_nil]; omega)) ?_
        refine ol_pure rfl rfl rfl (pure_index_own rfl Try.underlying24 sz48 rfl rfl rfl (by first | (simp only [List.length_map, List.length_append, List.length_cons, List.length_nil, List.length_set, List.length_replicate, List.length_take, List.length_drop, List.length_range]; omega) | omega)) ?_
        refine ol_pure rfl rfl rfl (pure_field_pel rfl fd48_0 rfl rfl) ?_
        refine ol_step rfl (step_store_pel rfl rfl rfl sz9 rfl rfl (mget (by first | (simp only [List.length_map, List.length_append, List.length_cons, List.length_nil, List.length_set, List.length_replicate, List.length_take, List.length_drop, List.length_range]; omega) | omega)) rfl rfl (.inl rfl) rfl (Nat.le_of_ble_eq_true rfl) hM0) ?_
        refine ol_nil ?_
        refine blockQ_normal ?_
        refine seq_pick 135 [(9, _)] [(9, _)] rfl ⟨rfl, trivial⟩ ⟨rfl, trivial⟩ ?_
        refine code_seq ?_
        refine code_frz 135 [(9, _)] [] hM0 rfl ⟨.inr ⟨_, _, rfl, rfl, rfl⟩, trivial⟩ trivial ?_
        refine code_ops _ rfl ?_
        refine ol_pure rfl rfl rfl (pure_move rfl rfl) ?_
        refine ol_pure rfl rfl rfl (pure_assign rfl rfl) ?_
        refine ol_nil ?_
        refine seq_pick 135 [(8, _)] [] rfl ⟨rfl, trivial⟩ trivial ?_
        refine code_ret ?_
        refine end_ret rfl ?_   -- end 3
        unfold spoiltP
        repeat (first | rw [if_pos (by assumption)] | rw [if_neg (by assumption)])
        try rw [letters, List.map_set]
        try rw [letters, List.map_take]
        try rfl
      · try simp only [decide_eq_true_eq, decide_eq_false_iff_not, Bool.not_eq_true', Bool.not_eq_false', Bool.and_eq_true, Bool.or_eq_true, Bool.and_eq_false_iff, List.length_map, Int.toNat_natCast] at h3
        refine code_seq ?_
        refine code_ops _ rfl ?_
        refine ol_pure rfl rfl rfl (pure_eql rfl rfl rfl) ?_
        refine ol_pure rfl rfl rfl (pure_assign rfl rfl) ?_
        refine ol_nil ?_
        refine seq_pick 135 [(3, _), (9, _), (10, _), (19, _), (55, _)] [(9, _)] rfl ⟨rfl, rfl, rfl, rfl, rfl, trivial⟩ ⟨rfl, trivial⟩ ?_
        refine code_cond rfl (fun h4 => ?_) (fun h4 => ?_)
        · try simp only [decide_eq_true_eq, decide_eq_false_iff_not, Bool.not_eq_true', Bool.not_eq_false', Bool.and_eq_true, Bool.or_eq_true, Bool.and_eq_false_iff, List.length_map, Int.toNat_natCast] at h4
          refine code_ops _ rfl ?_
          refine ol_pure rfl rfl rfl (pure_move rfl rfl) ?_
          refine ol_pure rfl rfl rfl (pure_move rfl rfl) ?_
          refine ol_pure rfl rfl rfl (pure_move rfl rfl) ?_
          refine ol_pure rfl rfl rfl (pure_call rfl rfl rfl (around_call (by assumption) (by omega)) hM0) ?_
          refine ol_pure rfl rfl rfl (pure_conv rfl Try.underlying3 Try.underlying5 rfl) ?_
          refine ol_pure rfl rfl rfl (pure_lit rfl Try.underlying53 el5 rfl rfl rfl rfl hM0) ?_
          refine ol_pure rfl rfl rfl (pure_btos rfl Try.underlying53 Try.underlying5 Try.underlying9 rfl rfl) ?_
          refine ol_pick 135 [(9, _), (57, _), (58, _), (63, _)] [(9, _)] rfl ⟨rfl, rfl, rfl, rfl, trivial⟩ ⟨rfl, trivial⟩ ?_
          refine ol_pure rfl rfl rfl (pure_sadd rfl rfl rfl (by simp only [List.length_map, List.length_cons, List.length_nil]; omega)) ?_
          refine ol_pure rfl rfl rfl (pure_index_own rfl Try.underlying24 sz48 rfl rfl rfl (by first | (simp only [List.length_map, List.length_append, List.length_cons, List.length_nil, List.length_set, List.length_replicate, List.length_take, List.length_drop, List.length_range]; omega) | omega)) ?_
          refine ol_pure rfl rfl rfl (pure_field_pel rfl fd48_0 rfl rfl) ?_
          refine ol_step rfl (step_store_pel rfl rfl rfl sz9 rfl rfl (mget (by first | (simp only [List.length_map, List.length_append, List.length_cons, List.length_nil, List.length_set, List.length_replicate, List.length_take, List.length_drop, List.length_range]; omega) | omega)) rfl rfl (.inl rfl) rfl (Nat.le_of_ble_eq_true rfl) hM0) ?_
          refine ol_nil ?_
          refine blockQ_normal ?_
          refine seq_pick 135 [(9, _)] [(9, _)] rfl ⟨rfl, trivial⟩ ⟨rfl, trivial⟩ ?_
          refine code_seq ?_
          refine code_frz 135 [(9, _)] [] hM0 rfl ⟨.inr ⟨_, _, rfl, rfl, rfl⟩, trivial⟩ trivial ?_
          refine code_ops _ rfl ?_
          refine ol_pure rfl rfl rfl (pure_move rfl rfl) ?_
          refine ol_pure rfl rfl rfl (pure_assign rfl rfl) ?_
          refine ol_nil ?_
          refine seq_pick 135 [(8, _)] [] rfl ⟨rfl, trivial⟩ trivial ?_
          refine code_ret ?_
          refine end_ret rfl ?_   -- end 4
          unfold spoiltP
          repeat (first | rw [if_pos (by assumption)] | rw [if_neg (by assumption)])
          try rw [letters, List.map_set]
          try rw [letters, List.map_take]
          try rfl
        · try simp only [decide_eq_true_eq, decide_eq_false_iff_not, Bool.not_eq_true', Bool.not_eq_false', Bool.and_eq_true, Bool.or_eq_true, Bool.and_eq_false_iff, List.length_map, Int.toNat_natCast] at h4
          refine code_seq ?_
          refine code_ops _ rfl ?_
          refine ol_pure rfl rfl rfl (pure_eql rfl rfl rfl) ?_
          refine ol_pure rfl rfl rfl (pure_assign rfl rfl) ?_
          refine ol_nil ?_
          refine seq_pick 135 [(3, _), (9, _), (10, _), (19, _), (67, _)] [(9, _)] rfl ⟨rfl, rfl, rfl, rfl, rfl, trivial⟩ ⟨rfl, trivial⟩ ?_
          refine code_cond rfl (fun h5 => ?_) (fun h5 => ?_)
          · try simp only [decide_eq_true_eq, decide_eq_false_iff_not, Bool.not_eq_true', Bool.not_eq_false', Bool.and_eq_true, Bool.or_eq_true, Bool.and_eq_false_iff, List.length_map, Int.toNat_natCast] at h5
            refine code_ops _ rfl ?_
            refine ol_pure rfl rfl rfl (pure_move rfl rfl) ?_
            refine ol_pure rfl rfl rfl (pure_move rfl rfl) ?_
            refine ol_pure rfl rfl rfl (pure_move rfl rfl) ?_
            refine ol_pure rfl rfl rfl (pure_index_own rfl Try.underlying24 sz48 rfl rfl rfl (by first | (simp only [List.length_map, List.length_append, List.length_cons, List.length_nil, List.length_set, List.length_replicate, List.length_take, List.length_drop, List.length_range]; omega) | omega)) ?_
            refine ol_pure rfl rfl rfl (pure_field_pel rfl fd48_1 rfl rfl) ?_
            refine ol_step rfl (step_store_pel rfl rfl rfl sz3 rfl rfl (mget (by first | (simp only [List.length_map, List.length_append, List.length_cons, List.length_nil, List.length_set, List.length_replicate, List.length_take, List.length_drop, List.length_range]; omega) | omega)) rfl rfl (.inl rfl) rfl (Nat.le_of_ble_eq_true rfl) hM0) ?_
            refine ol_nil ?_
            refine blockQ_normal ?_
            refine seq_pick 135 [(9, _)] [(9, _)] rfl ⟨rfl, trivial⟩ ⟨rfl, trivial⟩ ?_
            refine code_seq ?_
            refine code_frz 135 [(9, _)] [] hM0 rfl ⟨.inr ⟨_, _, rfl, rfl, rfl⟩, trivial⟩ trivial ?_
            refine code_ops _ rfl ?_
            refine ol_pure rfl rfl rfl (pure_move rfl rfl) ?_
            refine ol_pure rfl rfl rfl (pure_assign rfl rfl) ?_
            refine ol_nil ?_
            refine seq_pick 135 [(8, _)] [] rfl ⟨rfl, trivial⟩ trivial ?_
            refine code_ret ?_
            refine end_ret rfl ?_   -- end 5
            unfold spoiltP
            repeat (first | rw [if_pos (by assumption)] | rw [if_neg (by assumption)])
            try rw [letters, List.map_set]
            try rw [letters, List.map_take]
            try rfl
          · try simp only [decide_eq_true_eq, decide_eq_false_iff_not, Bool.not_eq_true', Bool.not_eq_false', Bool.and_eq_true, Bool.or_eq_true, Bool.and_eq_false_iff, List.length_map, Int.toNat_natCast] at h5
            refine code_seq ?_
            refine code_ops _ rfl ?_
            refine ol_pure rfl rfl rfl (pure_eql rfl rfl rfl) ?_
            refine ol_pure rfl rfl rfl (pure_assign rfl rfl) ?_
            refine ol_nil ?_
            refine seq_pick 135 [(3, _), (9, _), (10, _), (19, _), (74, _)] [(9, _)] rfl ⟨rfl, rfl, rfl, rfl, rfl, trivial⟩ ⟨rfl, trivial⟩ ?_
            refine code_cond rfl (fun h6 => ?_) (fun h6 => ?_)
            · try simp only [decide_eq_true_eq, decide_eq_false_iff_not, Bool.not_eq_true', Bool.not_eq_false', Bool.and_eq_true, Bool.or_eq_true, Bool.and_eq_false_iff, List.length_map, Int.toNat_natCast] at h6
              refine code_ops _ rfl ?_
              refine ol_pure rfl rfl rfl (pure_move rfl rfl) ?_
              refine ol_pure rfl rfl rfl (pure_move rfl rfl) ?_
              refine ol_pure rfl rfl rfl (pure_move rfl rfl) ?_
              refine ol_pure rfl rfl rfl (pure_move rfl rfl) ?_
              refine ol_pure rfl rfl rfl (pure_lenm rfl Try.underlying24 rfl) ?_
              refine ol_pure rfl rfl rfl (pure_addi rfl rfl rfl (by omega)) ?_
              refine ol_pure rfl rfl rfl (pure_call rfl rfl rfl (around_call (by assumption) (by omega)) hM0) ?_
              refine ol_pure rfl rfl rfl (pure_index_own rfl Try.underlying24 sz48 rfl rfl rfl (by first | (simp only [List.length_map, List.length_append, List.length_cons, List.length_nil, List.length_set, List.length_replicate, List.length_take, List.length_drop, List.length_range]; omega) | omega)) ?_
              refine ol_pure rfl rfl rfl (pure_field_pel rfl fd48_1 rfl rfl) ?_
              refine ol_step rfl (step_store_pel rfl rfl rfl sz3 rfl rfl (mget (by first | (simp only [List.length_map, List.length_append, List.length_cons, List.length_nil, List.length_set, List.length_replicate, List.length_take, List.length_drop, List.length_range]; omega) | omega)) rfl rfl (.inl rfl) rfl (Nat.le_of_ble_eq_true rfl) hM0) ?_
              refine ol_nil ?_
              refine blockQ_normal ?_
              refine seq_pick 135 [(9, _)] [(9, _)] rfl ⟨rfl, trivial⟩ ⟨rfl, trivial⟩ ?_
              refine code_seq ?_
              refine code_frz 135 [(9, _)] [] hM0 rfl ⟨.inr ⟨_, _, rfl, rfl, rfl⟩, trivial⟩ trivial ?_
              refine code_ops _ rfl ?_
              refine ol_pure rfl rfl rfl (pure_move rfl rfl) ?_
              refine ol_pure rfl rfl rfl (pure_assign rfl rfl) ?_
              refine ol_nil ?_
              refine seq_pick 135 [(8, _)] [] rfl ⟨rfl, trivial⟩ trivial ?_
              refine code_ret ?_
              refine end_ret rfl ?_   -- end 6
              unfold spoiltP
              repeat (first | rw [if_pos (by assumption)] | rw [if_neg (by assumption)])
              try rw [letters, List.map_set]
              try rw [letters, List.map_take]
              try rfl
            · try simp only [decide_eq_true_eq, decide_eq_false_iff_not, Bool.not_eq_true', Bool.not_eq_false', Bool.and_eq_true, Bool.or_eq_true, Bool.and_eq_false_iff, List.length_map, Int.toNat_natCast] at h6
              refine code_seq ?_
              refine code_ops _ rfl ?_
              refine ol_pure rfl rfl rfl (pure_eql rfl rfl rfl) ?_
              refine ol_pure rfl rfl rfl (pure_assign rfl rfl) ?_
              refine ol_nil ?_
              refine seq_pick 135 [(3, _), (9, _), (10, _), (19, _), (85, _)] [(9, _)] rfl ⟨rfl, rfl, rfl, rfl, rfl, trivial⟩ ⟨rfl, trivial⟩ ?_
              refine code_cond rfl (fun h7 => ?_) (fun h7 => ?_)
              · try simp only [decide_eq_true_eq, decide_eq_false_iff_not, Bool.not_eq_true', Bool.not_eq_false', Bool.and_eq_true, Bool.or_eq_true, Bool.and_eq_false_iff, List.length_map, Int.toNat_natCast] at h7
                refine code_ops _ rfl ?_
                refine ol_pure rfl rfl rfl (pure_move rfl rfl) ?_
                refine ol_pure rfl rfl rfl (pure_move rfl rfl) ?_
                refine ol_pure rfl rfl rfl (pure_move rfl rfl) ?_
                refine ol_pure rfl rfl rfl (pure_index_own rfl Try.underlying24 sz48 rfl rfl rfl (by first | (simp only [List.length_map, List.length_append, List.length_cons, List.length_nil, List.length_set, List.length_replicate, List.length_take, List.length_drop, List.length_range]; omega) | omega)) ?_
                refine ol_pure rfl rfl rfl (pure_field_pel rfl fd48_2 rfl rfl) ?_
                refine ol_step rfl (step_store_pel rfl rfl rfl sz3 rfl rfl (mget (by first | (simp only [List.length_map, List.length_append, List.length_cons, List.length_nil, List.length_set, List.length_replicate, List.length_take, List.length_drop, List.length_range]; omega) | omega)) rfl rfl (.inl rfl) rfl (Nat.le_of_ble_eq_true rfl) hM0) ?_
                refine ol_nil ?_
                refine blockQ_normal ?_
                refine seq_pick 135 [(9, _)] [(9, _)] rfl ⟨rfl, trivial⟩ ⟨rfl, trivial⟩ ?_
                refine code_seq ?_
                refine code_frz 135 [(9, _)] [] hM0 rfl ⟨.inr ⟨_, _, rfl, rfl, rfl⟩, trivial⟩ trivial ?_
                refine code_ops _ rfl ?_
                refine ol_pure rfl rfl rfl (pure_move rfl rfl) ?_
                refine ol_pure rfl rfl rfl (pure_assign rfl rfl) ?_
                refine ol_nil ?_
                refine seq_pick 135 [(8, _)] [] rfl ⟨rfl, trivial⟩ trivial ?_
                refine code_ret ?_
                refine end_ret rfl ?_   -- end 7
                unfold spoiltP
                repeat (first | rw [if_pos (by assumption)] | rw [if_neg (by assumption)])
                try rw [letters, List.map_set]
                try rw [letters, List.map_take]
                try rfl
              · try simp only [decide_eq_true_eq, decide_eq_false_iff_not, Bool.not_eq_true', Bool.not_eq_false', Bool.and_eq_true, Bool.or_eq_true, Bool.and_eq_false_iff, List.length_map, Int.toNat_natCast] at h7
                refine code_seq ?_
                refine code_ops _ rfl ?_
                refine ol_pure rfl rfl rfl (pure_eql rfl rfl rfl) ?_
                refine ol_pure rfl rfl rfl (pure_assign rfl rfl) ?_
                refine ol_nil ?_
                refine seq_pick 135 [(3, _), (9, _), (10, _), (19, _), (92, _)] [(9, _)] rfl ⟨rfl, rfl, rfl, rfl, rfl, trivial⟩ ⟨rfl, trivial⟩ ?_
                refine code_cond rfl (fun h8 => ?_) (fun h8 => ?_)
                · try simp only [decide_eq_true_eq, decide_eq_false_iff_not, Bool.not_eq_true', Bool.not_eq_false', Bool.and_eq_true, Bool.or_eq_true, Bool.and_eq_false_iff, List.length_map, Int.toNat_natCast] at h8
                  refine code_ops _ rfl ?_
                  refine ol_pure rfl rfl rfl (pure_move rfl rfl) ?_
                  refine ol_pure rfl rfl rfl (pure_move rfl rfl) ?_
                  refine ol_pure rfl rfl rfl (pure_move rfl rfl) ?_
                  refine ol_pure rfl rfl rfl (pure_call rfl rfl rfl (around_call (by assumption) (by omega)) hM0) ?_
                  refine ol_pure rfl rfl rfl (pure_subi rfl rfl rfl (by omega)) ?_
                  refine ol_pure rfl rfl rfl (pure_index_own rfl Try.underlying24 sz48 rfl rfl rfl (by first | (simp only [List.length_map, List.length_append, List.length_cons, List.length_nil, List.length_set, List.length_replicate, List.length_take, List.length_drop, List.length_range]; omega) | omega)) ?_
                  refine ol_pure rfl rfl rfl (pure_field_pel rfl fd48_2 rfl rfl) ?_
                  refine ol_step rfl (step_store_pel rfl rfl rfl sz3 rfl rfl (mget (by first | (simp only [List.length_map, List.length_append, List.length_cons, List.length_nil, List.length_set, List.length_replicate, List.length_take, List.length_drop, List.length_range]; omega) | omega)) rfl rfl (.inl rfl) rfl (Nat.le_of_ble_eq_true rfl) hM0) ?_
                  refine ol_nil ?_
                  refine blockQ_normal ?_
                  refine seq_pick 135 [(9, _)] [(9, _)] rfl ⟨rfl, trivial⟩ ⟨rfl, trivial⟩ ?_
                  refine code_seq ?_
                  refine code_frz 135 [(9, _)] [] hM0 rfl ⟨.inr ⟨_, _, rfl, rfl, rfl⟩, trivial⟩ trivial ?_
                  refine code_ops _ rfl ?_
                  refine ol_pure rfl rfl rfl (pure_move rfl rfl) ?_
                  refine ol_pure rfl rfl rfl (pure_assign rfl rfl) ?_
                  refine ol_nil ?_
                  refine seq_pick 135 [(8, _)] [] rfl ⟨rfl, trivial⟩ trivial ?_
                  refine code_ret ?_
                  refine end_ret rfl ?_   -- end 8
                  unfold spoiltP
                  repeat (first | rw [if_pos (by assumption)] | rw [if_neg (by assumption)])
                  try rw [letters, List.map_set]
                  try rw [letters, List.map_take]
                  try rfl
                · try simp only [decide_eq_true_eq, decide_eq_false_iff_not, Bool.not_eq_true', Bool.not_eq_false', Bool.and_eq_true, Bool.or_eq_true, Bool.and_eq_false_iff, List.length_map, Int.toNat_natCast] at h8
                  refine code_seq ?_
                  refine code_ops _ rfl ?_
                  refine ol_pure rfl rfl rfl (pure_eql rfl rfl rfl) ?_
                  refine ol_pure rfl rfl rfl (pure_assign rfl rfl) ?_
                  refine ol_nil ?_
                  refine seq_pick 135 [(3, _), (9, _), (10, _), (19, _), (101, _)] [(9, _)] rfl ⟨rfl, rfl, rfl, rfl, rfl, trivial⟩ ⟨rfl, trivial⟩ ?_
                  refine code_cond rfl (fun h9 => ?_) (fun h9 => ?_)
                  · try simp only [decide_eq_true_eq, decide_eq_false_iff_not, Bool.not_eq_true', Bool.not_eq_false', Bool.and_eq_true, Bool.or_eq_true, Bool.and_eq_false_iff, List.length_map, Int.toNat_natCast] at h9
                    refine code_ops _ rfl ?_
                    refine ol_pure rfl rfl rfl (pure_move rfl rfl) ?_
                    refine ol_pure rfl rfl rfl (pure_move rfl rfl) ?_
                    refine ol_pure rfl rfl rfl (pure_move rfl rfl) ?_
                    refine ol_pure rfl rfl rfl (pure_call rfl rfl rfl (around_call (by assumption) (by omega)) hM0) ?_
                    refine ol_pure rfl rfl rfl (pure_subi rfl rfl rfl (by omega)) ?_
                    refine ol_pure rfl rfl rfl (pure_index_own rfl Try.underlying24 sz48 rfl rfl rfl (by first | (simp only [List.length_map, List.length_append, List.length_cons, List.length_nil, List.length_set, List.length_replicate, List.length_take, List.length_drop, List.length_range]; omega) | omega)) ?_
                    refine ol_pure rfl rfl rfl (pure_field_pel rfl fd48_3 rfl rfl) ?_
                    refine ol_step rfl (step_store_pel rfl rfl rfl sz3 rfl rfl (mget (by first | (simp only [List.length_map, List.length_append, List.length_cons, List.length_nil, List.length_set, List.length_replicate, List.length_take, List.length_drop, List.length_range]; omega) | omega)) rfl rfl (.inl rfl) rfl (Nat.le_of_ble_eq_true rfl) hM0) ?_
                    refine ol_nil ?_
                    refine blockQ_normal ?_
                    refine seq_pick 135 [(9, _)] [(9, _)] rfl ⟨rfl, trivial⟩ ⟨rfl, trivial⟩ ?_
                    refine code_seq ?_
                    refine code_frz 135 [(9, _)] [] hM0 rfl ⟨.inr ⟨_, _, rfl, rfl, rfl⟩, trivial⟩ trivial ?_
                    refine code_ops _ rfl ?_
                    refine ol_pure rfl rfl rfl (pure_move rfl rfl) ?_
                    refine ol_pure rfl rfl rfl (pure_assign rfl rfl) ?_
                    refine ol_nil ?_
                    refine seq_pick 135 [(8, _)] [] rfl ⟨rfl, trivial⟩ trivial ?_
                    refine code_ret ?_
                    refine end_ret rfl ?_   -- end 9
                    unfold spoiltP
                    repeat (first | rw [if_pos (by assumption)] | rw [if_neg (by assumption)])
                    try rw [letters, List.map_set]
                    try rw [letters, List.map_take]
                    try rfl
                  · try simp only [decide_eq_true_eq, decide_eq_false_iff_not, Bool.not_eq_true', Bool.not_eq_false', Bool.and_eq_true, Bool.or_eq_true, Bool.and_eq_false_iff, List.length_map, Int.toNat_natCast] at h9
                    refine code_seq ?_
                    refine code_ops _ rfl ?_
                    refine ol_pure rfl rfl rfl (pure_eql rfl rfl rfl) ?_
                    refine ol_pure rfl rfl rfl (pure_assign rfl rfl) ?_
                    refine ol_nil ?_
                    refine seq_pick 135 [(3, _), (9, _), (10, _), (19, _), (110, _)] [(9, _)] rfl ⟨rfl, rfl, rfl, rfl, rfl, trivial⟩ ⟨rfl, trivial⟩ ?_
                    refine code_cond rfl (fun h10 => ?_) (fun h10 => ?_)
                    · try simp only [decide_eq_true_eq, decide_eq_false_iff_not, Bool.not_eq_true', Bool.not_eq_false', Bool.and_eq_true, Bool.or_eq_true, Bool.and_eq_false_iff, List.length_map, Int.toNat_natCast] at h10
                      refine code_ops _ rfl ?_
                      refine ol_pure rfl rfl rfl (pure_move rfl rfl) ?_
                      refine ol_pure rfl rfl rfl (pure_move rfl rfl) ?_
                      refine ol_pure rfl rfl rfl (pure_move rfl rfl) ?_
                      refine ol_pure rfl rfl rfl (pure_index_own rfl Try.underlying24 sz48 rfl rfl rfl (by first | (simp only [List.length_map, List.length_append, List.length_cons, List.length_nil, List.length_set, List.length_replicate, List.length_take, List.length_drop, List.length_range]; omega) | omega)) ?_
                      refine ol_pure rfl rfl rfl (pure_field_pel rfl fd48_4 rfl rfl) ?_
                      refine ol_step rfl (step_store_pel rfl rfl rfl sz3 rfl rfl (mget (by first | (simp only [List.length_map, List.length_append, List.length_cons, List.length_nil, List.length_set, List.length_replicate, List.length_take, List.length_drop, List.length_range]; omega) | omega)) rfl rfl (.inl rfl) rfl (Nat.le_of_ble_eq_true rfl) hM0) ?_
                      refine ol_nil ?_
                      refine blockQ_normal ?_
                      refine seq_pick 135 [(9, _)] [(9, _)] rfl ⟨rfl, trivial⟩ ⟨rfl, trivial⟩ ?_
                      refine code_seq ?_
                      refine code_frz 135 [(9, _)] [] hM0 rfl ⟨.inr ⟨_, _, rfl, rfl, rfl⟩, trivial⟩ trivial ?_
                      refine code_ops _ rfl ?_
                      refine ol_pure rfl rfl rfl (pure_move rfl rfl) ?_
                      refine ol_pure rfl rfl rfl (pure_assign rfl rfl) ?_
                      refine ol_nil ?_
                      refine seq_pick 135 [(8, _)] [] rfl ⟨rfl, trivial⟩ trivial ?_
                      refine code_ret ?_
                      refine end_ret rfl ?_   -- end 10
                      unfold spoiltP
                      repeat (first | rw [if_pos (by assumption)] | rw [if_neg (by assumption)])
                      try rw [letters, List.map_set]
                      try rw [letters, List.map_take]
                      try rfl
                    · try simp only [decide_eq_true_eq, decide_eq_false_iff_not, Bool.not_eq_true', Bool.not_eq_false', Bool.and_eq_true, Bool.or_eq_true, Bool.and_eq_false_iff, List.length_map, Int.toNat_natCast] at h10
                      refine code_seq ?_
                      refine code_ops _ rfl ?_
                      refine ol_pure rfl rfl rfl (pure_eql rfl rfl rfl) ?_
                      refine ol_pure rfl rfl rfl (pure_assign rfl rfl) ?_
                      refine ol_nil ?_
                      refine seq_pick 135 [(3, _), (9, _), (10, _), (19, _), (117, _)] [(9, _)] rfl ⟨rfl, rfl, rfl, rfl, rfl, trivial⟩ ⟨rfl, trivial⟩ ?_
                      refine code_cond rfl (fun h11 => ?_) (fun h11 => ?_)
                      · try simp only [decide_eq_true_eq, decide_eq_false_iff_not, Bool.not_eq_true', Bool.not_eq_false', Bool.and_eq_true, Bool.or_eq_true, Bool.and_eq_false_iff, List.length_map, Int.toNat_natCast] at h11
                        refine code_ops _ rfl ?_
                        refine ol_pure rfl rfl rfl (pure_move rfl rfl) ?_
                        refine ol_pure rfl rfl rfl (pure_move rfl rfl) ?_
                        refine ol_pure rfl rfl rfl (pure_lit rfl Try.underlying22 el3 rfl rfl rfl rfl hM0) ?_
                        refine ol_pure rfl rfl rfl (pure_move rfl rfl) ?_
                        refine ol_pure rfl rfl rfl (pure_call rfl rfl rfl (around_call (by assumption) (by omega)) hM0) ?_
                        first | refine ol_pure rfl rfl rfl (pure_indexn (f := int) (l := [0, 1, 1000, 1001]) rfl Try.underlying22 sz3 rfl rfl (by simp only [List.length_cons, List.length_nil]; omega) (fun _ => rfl)) ?_ | refine ol_pure rfl rfl rfl (pure_indexm (f := int) (l := [0, 1, 1000, 1001]) rfl Try.underlying22 sz3 rfl rfl (by simp only [List.length_cons, List.length_nil]; omega) (fun _ => rfl)) ?_
                        refine ol_pure rfl rfl rfl (pure_load rfl ag3 rfl rfl) ?_
                        refine ol_pure rfl rfl rfl (pure_index_own rfl Try.underlying24 sz48 rfl rfl rfl (by first | (simp only [List.length_map, List.length_append, List.length_cons, List.length_nil, List.length_set, List.length_replicate, List.length_take, List.length_drop, List.length_range]; omega) | omega)) ?_
                        refine ol_pure rfl rfl rfl (pure_field_pel rfl fd48_4 rfl rfl) ?_
                        refine ol_step rfl (step_store_pel rfl rfl rfl sz3 rfl rfl (mget (by first | (simp only [List.length_map, List.length_append, List.length_cons, List.length_nil, List.length_set, List.length_replicate, List.length_take, List.length_drop, List.length_range]; omega) | omega)) rfl rfl (.inl rfl) rfl (Nat.le_of_ble_eq_true rfl) hM0) ?_
                        refine ol_nil ?_
                        refine blockQ_normal ?_
                        refine seq_pick 135 [(9, _)] [(9, _)] rfl ⟨rfl, trivial⟩ ⟨rfl, trivial⟩ ?_
                        refine code_seq ?_
                        refine code_frz 135 [(9, _)] [] hM0 rfl ⟨.inr ⟨_, _, rfl, rfl, rfl⟩, trivial⟩ trivial ?_
                        refine code_ops _ rfl ?_
                        refine ol_pure rfl rfl rfl (pure_move rfl rfl) ?_
                        refine ol_pure rfl rfl rfl (pure_assign rfl rfl) ?_
                        refine ol_nil ?_
                        refine seq_pick 135 [(8, _)] [] rfl ⟨rfl, trivial⟩ trivial ?_
                        refine code_ret ?_
                        refine end_ret rfl ?_   -- end 11
                        unfold spoiltP
                        repeat (first | rw [if_pos (by assumption)] | rw [if_neg (by assumption)])
                        try rw [letters, List.map_set]
                        try rw [letters, List.map_take]
                        try rfl
                      · try simp only [decide_eq_true_eq, decide_eq_false_iff_not, Bool.not_eq_true', Bool.not_eq_false', Bool.and_eq_true, Bool.or_eq_true, Bool.and_eq_false_iff, List.length_map, Int.toNat_natCast] at h11
                        refine code_seq ?_
                        refine code_ops _ rfl ?_
                        refine ol_pure rfl rfl rfl (pure_eql rfl rfl rfl) ?_
                        refine ol_pure rfl rfl rfl (pure_assign rfl rfl) ?_
                        refine ol_nil ?_
                        refine seq_pick 135 [(3, _), (9, _), (10, _), (128, _)] [(9, _)] rfl ⟨rfl, rfl, rfl, rfl, trivial⟩ ⟨rfl, trivial⟩ ?_
                        refine code_cond rfl (fun h12 => ?_) (fun h12 => ?_)
                        · try simp only [decide_eq_true_eq, decide_eq_false_iff_not, Bool.not_eq_true', Bool.not_eq_false', Bool.and_eq_true, Bool.or_eq_true, Bool.and_eq_false_iff, List.length_map, Int.toNat_natCast] at h12
                          refine code_ops _ rfl ?_
                          refine ol_pure rfl rfl rfl (pure_move rfl rfl) ?_
                          refine ol_pure rfl rfl rfl (pure_call rfl rfl rfl (around_call (by assumption) (by omega)) hM0) ?_
                          refine ol_pure rfl rfl rfl (pure_addi rfl rfl rfl (by omega)) ?_
                          refine ol_step rfl (step_call_own rfl rfl rfl rfl rfl rfl (many_call (by omega)) hM0) ?_
                          refine ol_pure rfl rfl rfl (pure_assign rfl rfl) ?_
                          refine ol_nil ?_
                          refine blockQ_normal ?_
                          refine seq_pick 135 [(9, _)] [(133, _)] rfl ⟨rfl, trivial⟩ ⟨rfl, trivial⟩ ?_
                          refine code_seq ?_
                          refine code_frz 135 [(9, _)] [] hM0 rfl ⟨.inr ⟨_, _, rfl, rfl, rfl⟩, trivial⟩ trivial ?_
                          refine code_ops _ rfl ?_
                          refine ol_pure rfl rfl rfl (pure_move rfl rfl) ?_
                          refine ol_pure rfl rfl rfl (pure_assign rfl rfl) ?_
                          refine ol_nil ?_
                          refine seq_pick 135 [(8, _)] [] rfl ⟨rfl, trivial⟩ trivial ?_
                          refine code_ret ?_
                          refine end_ret rfl ?_   -- end 12
                          unfold spoiltP
                          repeat (first | rw [if_pos (by assumption)] | rw [if_neg (by assumption)])
                          try rw [letters, List.map_set]
                          try rw [letters, List.map_take]
                          try rfl
                        · try simp only [decide_eq_true_eq, decide_eq_false_iff_not, Bool.not_eq_true', Bool.not_eq_false', Bool.and_eq_true, Bool.or_eq_true, Bool.and_eq_false_iff, List.length_map, Int.toNat_natCast] at h12
                          refine code_frz 135 [(9, _), (10, _)] [] hM0 rfl ⟨.inr ⟨_, _, rfl, rfl, rfl⟩, .inl rfl, trivial⟩ trivial ?_
                          refine code_ops _ rfl ?_
                          refine ol_pure rfl rfl rfl (pure_move rfl rfl) ?_
                          refine ol_pure rfl rfl rfl (pure_move rfl rfl) ?_
                          refine ol_pure rfl rfl rfl (pure_slice_h rfl Try.underlying24 sz48 rfl rfl (by refine ⟨by omega, ?_⟩; show _ ≤ (((a.map letter).length : Nat) : Int); rw [List.length_map]; omega) (map_len fun _ => rfl)) ?_
                          refine ol_pure rfl rfl rfl (pure_assign rfl rfl) ?_
                          refine ol_nil ?_
                          refine blockQ_normal ?_
                          refine seq_pick 135 [(9, _)] [] rfl ⟨rfl, trivial⟩ trivial ?_
                          refine code_seq ?_
                          refine code_ops _ rfl ?_
                          refine ol_pure rfl rfl rfl (pure_move rfl rfl) ?_
                          refine ol_pure rfl rfl rfl (pure_assign rfl rfl) ?_
                          refine ol_nil ?_
                          refine seq_pick 135 [(8, _)] [] rfl ⟨rfl, trivial⟩ trivial ?_
                          refine code_ret ?_
                          refine end_ret rfl ?_   -- end 13
                          unfold spoiltP
                          repeat (first | rw [if_pos (by assumption)] | rw [if_neg (by assumption)])
                          try rw [letters, List.map_set]
                          try rw [letters, List.map_take]
                          try rfl
end Go.Proofs.Ytcimmcjnkphagaa
