/-
  Contracts of the given alphabets: pool, Letters, Small, Many, Take, raw.
-/
import Derived.Test.YtcimmcjnkphagaaCk
import Derived.Test.YtcimmcjnkphagaaCa
import Derived.Test.YtcimmcjnkphagaaPh
namespace Go.Proofs.Ytcimmcjnkphagaa
open Go.Am Go.Wb
set_option linter.unusedVariables false
set_option linter.unusedSimpArgs false
theorem fn38 : Fn1 Try.prog 38 Try.f38.ntmps 2 (Try.f38.body.getD .skip) := ⟨Try.f38, Try.func38, rfl, rfl, rfl, by kernel_rfl⟩
set_option maxRecDepth 100000 in
theorem pool_call {n : Int} (hn : 0 ≤ n ∧ n < 16) : CallF Try.prog 38 [int n] (.p (sbytes (poolL.getD n.toNat default))) := by
  refine callF_of_code fn38 (Nat.le_of_ble_eq_true rfl) fun w0 M0 hM0 => ?_
  refine code_seq ?_
  refine code_ops _ rfl ?_
  refine ol_pure rfl rfl rfl (pure_assign rfl rfl) ?_
  refine ol_nil ?_
  refine seq_pick 7 [(0, _)] [] rfl ⟨rfl, trivial⟩ trivial ?_
  refine code_seq ?_
  refine code_ops _ rfl ?_
  refine ol_pure rfl rfl rfl (pure_lit rfl Try.underlying73 el9 rfl rfl rfl rfl hM0) ?_
  refine ol_pure rfl rfl rfl (pure_move rfl rfl) ?_
  first | refine ol_pure rfl rfl rfl (pure_indexn (f := sbytes) (l := poolL) rfl Try.underlying73 sz9 rfl rfl (by simp only [List.length_cons, List.length_nil]; omega) (fun _ => rfl)) ?_ | refine ol_pure rfl rfl rfl (pure_indexm (f := sbytes) (l := poolL) rfl Try.underlying73 sz9 rfl rfl (by simp only [List.length_cons, List.length_nil]; omega) (fun _ => rfl)) ?_
  refine ol_pure rfl rfl rfl (pure_load rfl ag9 rfl rfl) ?_
  refine ol_pure rfl rfl rfl (pure_assign rfl rfl) ?_
  refine ol_nil ?_
  refine seq_pick 7 [(2, _)] [] rfl ⟨rfl, trivial⟩ trivial ?_
  refine code_ret ?_
  refine end_ret rfl ?_   -- end 1
  rfl
theorem fn14 : Fn1 Try.prog 14 Try.f14.ntmps 0 (Try.f14.body.getD .skip) := ⟨Try.f14, Try.func14, rfl, rfl, rfl, by kernel_rfl⟩
set_option maxRecDepth 100000 in
theorem small_call : CallF Try.prog 14 [] (.p (letters smallP)) := by
  refine callF_of_code fn14 (Nat.le_of_ble_eq_true rfl) fun w0 M0 hM0 => ?_
  refine code_seq ?_
  refine code_ops _ rfl ?_
  refine ol_pure rfl rfl rfl (pure_assign rfl rfl) ?_
  refine ol_nil ?_
  refine seq_pick 12 [] [] rfl trivial trivial ?_
  refine code_seq ?_
  refine code_ops _ rfl ?_
  refine ol_pure rfl rfl rfl (pure_build rfl pl48 ze48 rfl rfl rfl) ?_
  refine ol_pure rfl rfl rfl (pure_build rfl pl48 ze48 rfl rfl rfl) ?_
  refine ol_pure rfl rfl rfl (pure_build rfl pl48 ze48 rfl rfl rfl) ?_
  refine ol_pure rfl rfl rfl (pure_build rfl pl48 ze48 rfl rfl rfl) ?_
  refine ol_pure rfl rfl rfl (pure_build rfl pl48 ze48 rfl rfl rfl) ?_
  refine ol_pure rfl rfl rfl (pure_build rfl pl48 ze48 rfl rfl rfl) ?_
  refine ol_pure rfl rfl rfl (pure_build rfl pl48 ze48 rfl rfl rfl) ?_
  refine ol_pick 12 [(1, _), (2, _), (3, _), (4, _), (5, _), (6, _), (7, _)] [] rfl ⟨rfl, rfl, rfl, rfl, rfl, rfl, rfl, trivial⟩ trivial ?_
  refine ol_pure rfl rfl rfl (pure_build rfl pl48 ze48 rfl rfl rfl) ?_
  refine ol_pure rfl rfl rfl (pure_build rfl pl48 ze48 rfl rfl rfl) ?_
  refine ol_pure rfl rfl rfl (pure_build rfl pl48 ze48 rfl rfl rfl) ?_
  refine ol_pure rfl rfl rfl (pure_lit rfl Try.underlying24 el48 rfl rfl rfl rfl hM0) ?_
  refine ol_pure rfl rfl rfl (pure_assign rfl rfl) ?_
  refine ol_nil ?_
  refine seq_pick 12 [(0, _)] [] rfl ⟨rfl, trivial⟩ trivial ?_
  refine code_ret ?_
  refine end_ret rfl ?_   -- end 1
  rfl
theorem fn42 : Fn1 Try.prog 42 Try.f42.ntmps 4 (Try.f42.body.getD .skip) := ⟨Try.f42, Try.func42, rfl, rfl, rfl, by kernel_rfl⟩
set_option maxRecDepth 100000 in
theorem take_call {l : List Int} {n : Int} (hl : l.length ≤ 9223372036854775807) (hn : 0 ≤ n ∧ n ≤ 1000) : CallF Try.prog 42 [ints l, int n] (.fresh 3 ((l.take n.toNat).map int)) := by
  have hmin : (if n < (l.length : Int) then n else (l.length : Int)).toNat ≤ 1000 := by split <;> omega
  refine callF_of_code fn42 (Nat.le_of_ble_eq_true rfl) fun w0 M0 hM0 => ?_
  refine code_seq ?_
  refine code_ops _ rfl ?_
  refine ol_step rfl (step_nil rfl rfl rfl rfl rfl 3 hM0) ?_
  refine ol_nil ?_
  refine seq_pick 14 [(0, _), (1, _)] [] rfl ⟨rfl, rfl, trivial⟩ trivial ?_
  refine code_seq ?_
  refine code_ops _ rfl ?_
  refine ol_step rfl (step_nil rfl rfl rfl rfl rfl 3 hM0) ?_
  refine ol_nil ?_
  refine seq_pick 14 [(0, _), (1, _), (5, _)] [(5, _)] rfl ⟨rfl, rfl, rfl, trivial⟩ ⟨rfl, trivial⟩ ?_
  refine code_seq ?_
  refine code_ops _ rfl ?_
  refine ol_pure rfl rfl rfl (pure_move rfl rfl) ?_
  refine ol_pure rfl rfl rfl (pure_move rfl rfl) ?_
  refine ol_pure rfl rfl rfl (pure_move rfl rfl) ?_
  refine ol_pure rfl rfl rfl (pure_lenm rfl Try.underlying22 rfl) ?_
  refine ol_pure rfl rfl rfl (pure_move rfl rfl) ?_
  refine ol_pure rfl rfl rfl (pure_min rfl rfl rfl) ?_
  refine ol_pure rfl rfl rfl (pure_slice_h rfl Try.underlying22 sz3 rfl rfl (by simp only [List.length_map]; omega) (map_len fun _ => rfl)) ?_
  refine ol_step rfl (step_append rfl rfl rfl rfl Try.underlying22 el3 rfl rfl hM0 (src_take rfl (fun _ => ⟨_, rfl⟩)) (by simp only [List.length_map, List.length_take, List.length_nil]; omega) (by simp only [List.length_map, List.length_take, List.length_nil]; omega)) ?_
  refine ol_pure rfl rfl rfl (pure_assign rfl rfl) ?_
  refine ol_nil ?_
  refine seq_pick 14 [(4, _)] [(5, _)] rfl ⟨rfl, trivial⟩ ⟨rfl, trivial⟩ ?_
  refine code_ret ?_
  refine end_ret rfl ?_   -- end 1
  rw [take_min]; rfl
theorem fn16 : Fn1 Try.prog 16 Try.f16.ntmps 2 (Try.f16.body.getD .skip) := ⟨Try.f16, Try.func16, rfl, rfl, rfl, by kernel_rfl⟩
set_option maxRecDepth 100000 in
set_option maxHeartbeats 2000000 in
theorem raw_call {l : List (List Int)} (hl : l.length ≤ 9223372036854775807) (hll : bigL l) : CallF Try.prog 16 [intss l] (.fresh 22 ((rawP l).map ints)) := by
  refine callF_of_code fn16 (Nat.le_of_ble_eq_true rfl) fun w0 M0 hM0 => ?_
  refine code_seq ?_
  refine code_ops _ rfl ?_
  refine ol_step rfl (step_nil rfl rfl rfl rfl rfl 22 hM0) ?_
  refine ol_nil ?_
  refine seq_pick 24 [(0, _)] [] rfl ⟨rfl, trivial⟩ trivial ?_
  refine code_seq ?_
  refine code_ops _ rfl ?_
  refine ol_step rfl (step_nil rfl rfl rfl rfl rfl 22 hM0) ?_
  refine ol_nil ?_
  refine seq_pick 24 [(0, _), (3, _)] [(3, _)] rfl ⟨rfl, rfl, trivial⟩ ⟨rfl, trivial⟩ ?_
  refine code_seq ?_
  refine code_seq ?_
  refine code_ops _ rfl ?_
  refine ol_pure rfl rfl rfl (pure_assign rfl rfl) ?_
  refine ol_nil ?_
  refine seq_pick 24 [(0, _), (3, _), (4, _)] [(3, _)] rfl ⟨rfl, rfl, rfl, trivial⟩ ⟨rfl, trivial⟩ ?_
  refine code_block ?_
  refine code_loopM (fun zm zs => ∃ i : Nat, zm = l.length - i ∧ (i ≤ l.length) ∧ (i ≤ 8) ∧ zs = ⟨24, [(0, .v .mx (intss l)), (3, .own 3), (4, .v .pl (int i))], [(3, .arr 22 (((l.take i).map (List.take 12)).map ints))]⟩) (loop_init (n := 24) (l := [(0, _), (3, _), (4, _)]) (o' := [(3, _)]) rfl ⟨rfl, rfl, rfl, trivial⟩ ⟨rfl, trivial⟩ ?_) ?_
  · exact ⟨_, 0, rfl, Nat.zero_le _, Nat.zero_le _, rfl⟩
  · rintro zm zs ⟨i, rfl, hL1_0, hL1_1, rfl⟩
    refine code_seq ?_
    refine code_seq ?_
    refine code_ops _ rfl ?_
    refine ol_pure rfl rfl rfl (pure_move rfl rfl) ?_
    refine ol_pure rfl rfl rfl (pure_move rfl rfl) ?_
    refine ol_pure rfl rfl rfl (pure_lenm rfl Try.underlying23 rfl) ?_
    refine ol_pure rfl rfl rfl (pure_lss rfl rfl rfl) ?_
    refine ol_pure rfl rfl rfl (pure_move rfl rfl) ?_
    refine ol_guard rfl (fun h1 => ?_) (fun h1 => ?_)
    · have h1' := h1; try simp only [decide_eq_true_eq, decide_eq_false_iff_not, Bool.not_eq_true', Bool.not_eq_false', Bool.and_eq_true, Bool.or_eq_true, Bool.and_eq_false_iff, List.length_map, Int.toNat_natCast] at h1'
      refine ol_pure_g rfl rfl h1 rfl rfl (pure_move rfl rfl) ?_
      refine ol_pure_g rfl rfl h1 rfl rfl (pure_lss rfl rfl rfl) ?_
      refine ol_pure rfl rfl rfl (pure_pick_t rfl rfl h1 rfl) ?_
      refine ol_nil ?_
      refine seq_pick 24 [(0, _), (3, _), (4, _), (12, _)] [(3, _)] rfl ⟨rfl, rfl, rfl, rfl, trivial⟩ ⟨rfl, trivial⟩ ?_
      refine code_cond rfl (fun h2 => ?_) (fun h2 => ?_)
      · try simp only [decide_eq_true_eq, decide_eq_false_iff_not, Bool.not_eq_true', Bool.not_eq_false', Bool.and_eq_true, Bool.or_eq_true, Bool.and_eq_false_iff, List.length_map, Int.toNat_natCast] at h2
        refine code_skip ?_
        refine seq_pick 24 [(0, _), (3, _), (4, _)] [(3, _)] rfl ⟨rfl, rfl, rfl, trivial⟩ ⟨rfl, trivial⟩ ?_
        refine code_seq ?_
        refine code_block ?_
        refine code_ops _ rfl ?_
        refine ol_pure rfl rfl rfl (pure_move rfl rfl) ?_
        refine ol_pure rfl rfl rfl (pure_move rfl rfl) ?_
        refine ol_pure rfl rfl rfl (pure_move rfl rfl) ?_
        first | refine ol_pure rfl rfl rfl (pure_indexn rfl Try.underlying23 sz22 rfl rfl (by omega) (fun _ => rfl)) ?_ | refine ol_pure rfl rfl rfl (pure_indexm rfl Try.underlying23 sz22 rfl rfl (by omega) (fun _ => rfl)) ?_
        refine ol_pure rfl rfl rfl (pure_load rfl ag22 rfl rfl) ?_
        refine ol_pure rfl rfl rfl (pure_call rfl rfl rfl (take_call (by first | assumption | exact bigL.get (by assumption) _) (by omega)) hM0) ?_
        refine ol_pure rfl rfl rfl (pure_lit rfl Try.underlying23 el22 rfl rfl rfl rfl hM0) ?_
        refine ol_step rfl (step_append rfl rfl rfl rfl Try.underlying23 el22 rfl rfl hM0 (src_pl rfl (one_len (by rfl))) (by first | (simp only [List.length_map, List.length_append, List.length_cons, List.length_nil, List.length_set, List.length_replicate, List.length_take, List.length_drop, List.length_range]; omega) | omega) (by first | (simp only [List.length_map, List.length_append, List.length_cons, List.length_nil, List.length_set, List.length_replicate, List.length_take, List.length_drop, List.length_range]; omega) | omega)) ?_
        refine ol_pure rfl rfl rfl (pure_assign rfl rfl) ?_
        refine ol_nil ?_
        refine blockQ_normal ?_
        refine seq_pick 24 [(0, _), (3, _), (4, _)] [(3, _)] rfl ⟨rfl, rfl, rfl, trivial⟩ ⟨rfl, trivial⟩ ?_
        refine code_ops _ rfl ?_
        refine ol_pure rfl rfl rfl (pure_move rfl rfl) ?_
        refine ol_pure rfl rfl rfl (pure_addi rfl rfl rfl (by omega)) ?_
        refine ol_pure rfl rfl rfl (pure_assign rfl rfl) ?_
        refine ol_nil ?_
        refine loop_next (n := 24) (l := [(0, _), (3, _), (4, _)]) (o' := [(3, _)]) rfl ⟨rfl, rfl, rfl, trivial⟩ ⟨rfl, trivial⟩ ?_   -- loop 1 end 1
        exact ⟨_, ⟨i + 1, rfl, by omega, by omega, by rw [take_succ (by omega), List.map_append, List.map_append]; rfl⟩, by omega⟩
      · try simp only [decide_eq_true_eq, decide_eq_false_iff_not, Bool.not_eq_true', Bool.not_eq_false', Bool.and_eq_true, Bool.or_eq_true, Bool.and_eq_false_iff, List.length_map, Int.toNat_natCast] at h2
        refine code_exit ?_
        refine seqQ_exit ?_
        refine loopM_exit ?_
        refine blockQ_same ?_
        refine seq_pick 24 [(3, _)] [(3, _)] rfl ⟨rfl, trivial⟩ ⟨rfl, trivial⟩ ?_
        refine code_seq ?_
        refine code_ops _ rfl ?_
        refine ol_pure rfl rfl rfl (pure_move rfl rfl) ?_
        refine ol_pure rfl rfl rfl (pure_assign rfl rfl) ?_
        refine ol_nil ?_
        refine seq_pick 24 [(2, _)] [(3, _)] rfl ⟨rfl, trivial⟩ ⟨rfl, trivial⟩ ?_
        refine code_ret ?_
        refine end_ret rfl ?_   -- end 1
        unfold rawP; first | rw [show i = 8 by omega] | rw [List.take_of_length_le (by omega : l.length ≤ i), List.take_of_length_le (by omega : l.length ≤ 8)]
    · have h1' := h1; try simp only [decide_eq_true_eq, decide_eq_false_iff_not, Bool.not_eq_true', Bool.not_eq_false', Bool.and_eq_true, Bool.or_eq_true, Bool.and_eq_false_iff, List.length_map, Int.toNat_natCast] at h1'
      refine ol_skip_g rfl rfl h1 rfl rfl ?_
      refine ol_skip_g rfl rfl h1 rfl rfl ?_
      refine ol_pure rfl rfl rfl (pure_pick_f rfl rfl h1 rfl) ?_
      refine ol_nil ?_
      refine seq_pick 24 [(0, _), (3, _), (4, _), (12, _)] [(3, _)] rfl ⟨rfl, rfl, rfl, rfl, trivial⟩ ⟨rfl, trivial⟩ ?_
      refine code_cond_f rfl ?_
      refine code_exit ?_
      refine seqQ_exit ?_
      refine loopM_exit ?_
      refine blockQ_same ?_
      refine seq_pick 24 [(3, _)] [(3, _)] rfl ⟨rfl, trivial⟩ ⟨rfl, trivial⟩ ?_
      refine code_seq ?_
      refine code_ops _ rfl ?_
      refine ol_pure rfl rfl rfl (pure_move rfl rfl) ?_
      refine ol_pure rfl rfl rfl (pure_assign rfl rfl) ?_
      refine ol_nil ?_
      refine seq_pick 24 [(2, _)] [(3, _)] rfl ⟨rfl, trivial⟩ ⟨rfl, trivial⟩ ?_
      refine code_ret ?_
      refine end_ret rfl ?_   -- end 2
      unfold rawP; first | rw [show i = 8 by omega] | rw [List.take_of_length_le (by omega : l.length ≤ i), List.take_of_length_le (by omega : l.length ≤ 8)]
theorem fn12 : Fn1 Try.prog 12 Try.f12.ntmps 2 (Try.f12.body.getD .skip) := ⟨Try.f12, Try.func12, rfl, rfl, rfl, by kernel_rfl⟩
set_option maxRecDepth 100000 in
set_option maxHeartbeats 2000000 in
theorem letters_call {l : List Int} (hl : l.length ≤ 9223372036854775807) (h64 : I64s l) : CallF Try.prog 12 [ints l] (.fresh 48 ((lettersP l).map letter)) := by
  have a0 := atL_lt (l := l) (i := 0) (most := 6) (by decide)
  have a1 := atL_lt (l := l) (i := 1) (most := 16) (by decide)
  refine callF_of_code fn12 (Nat.le_of_ble_eq_true rfl) fun w0 M0 hM0 => ?_
  refine code_seq ?_
  refine code_ops _ rfl ?_
  refine ol_step rfl (step_nil rfl rfl rfl rfl rfl 48 hM0) ?_
  refine ol_nil ?_
  refine seq_pick 64 [(0, _)] [] rfl ⟨rfl, trivial⟩ trivial ?_
  refine code_seq ?_
  refine code_ops _ rfl ?_
  refine ol_pure rfl rfl rfl (pure_move rfl rfl) ?_
  refine ol_pure rfl rfl rfl (pure_call rfl rfl rfl (at_call (by assumption) (by omega)) hM0) ?_
  refine ol_pure rfl rfl rfl (pure_addi rfl rfl rfl (by omega)) ?_
  refine ol_pure rfl rfl rfl (pure_assign rfl rfl) ?_
  refine ol_nil ?_
  refine seq_pick 64 [(0, _), (3, _)] [] rfl ⟨rfl, rfl, trivial⟩ trivial ?_
  refine code_seq ?_
  refine code_ops _ rfl ?_
  refine ol_pure rfl rfl rfl (pure_move rfl rfl) ?_
  refine ol_pure rfl rfl rfl (pure_call rfl rfl rfl (at_call (by assumption) (by omega)) hM0) ?_
  refine ol_pure rfl rfl rfl (pure_assign rfl rfl) ?_
  refine ol_nil ?_
  refine seq_pick 64 [(0, _), (3, _), (4, _)] [] rfl ⟨rfl, rfl, rfl, trivial⟩ trivial ?_
  refine code_seq ?_
  refine code_ops _ rfl ?_
  refine ol_step rfl (step_nil rfl rfl rfl rfl rfl 48 hM0) ?_
  refine ol_nil ?_
  refine seq_pick 64 [(0, _), (3, _), (4, _), (5, _)] [(5, _)] rfl ⟨rfl, rfl, rfl, rfl, trivial⟩ ⟨rfl, trivial⟩ ?_
  refine code_seq ?_
  refine code_seq ?_
  refine code_ops _ rfl ?_
  refine ol_pure rfl rfl rfl (pure_assign rfl rfl) ?_
  refine ol_nil ?_
  refine seq_pick 64 [(0, _), (3, _), (4, _), (5, _), (6, _)] [(5, _)] rfl ⟨rfl, rfl, rfl, rfl, rfl, trivial⟩ ⟨rfl, trivial⟩ ?_
  refine code_block ?_
  refine code_loopM (fun zm zs => ∃ i : Nat, zm = (3 + atL l 0 6).toNat - i ∧ (i ≤ (3 + atL l 0 6).toNat) ∧ zs = ⟨64, [(0, .v .mx (ints l)), (3, .v .pl (int (3 + atL l 0 6))), (4, .v .pl (int (atL l 1 16))), (5, .own 5), (6, .v .pl (int i))], [(5, .arr 48 ((lettersN l (atL l 1 16) i).map letter))]⟩) (loop_init (n := 64) (l := [(0, _), (3, _), (4, _), (5, _), (6, _)]) (o' := [(5, _)]) rfl ⟨rfl, rfl, rfl, rfl, rfl, trivial⟩ ⟨rfl, trivial⟩ ?_) ?_
  · exact ⟨_, 0, rfl, Nat.zero_le _, rfl⟩
  · rintro zm zs ⟨i, rfl, hL1_0, rfl⟩
    have b1 := atL_lt (l := l) (i := 2 + i) (most := 9) (by decide)
    have b2 := atL_lt (l := l) (i := 10 + i) (most := 3) (by decide)
    have b3 := atL_lt (l := l) (i := 30 + i) (most := 4) (by decide)
    have b4 := atL_lt (l := l) (i := 40 + i) (most := 2) (by decide)
    have b5 := fun h : 0 < (i : Int) => atL_lt (l := l) (i := 20 + i) (most := i) h
    have b6 := lettersN_len l (atL l 1 16) i
    refine code_seq ?_
    refine code_seq ?_
    refine code_ops _ rfl ?_
    refine ol_pure rfl rfl rfl (pure_move rfl rfl) ?_
    refine ol_pure rfl rfl rfl (pure_move rfl rfl) ?_
    refine ol_pure rfl rfl rfl (pure_lss rfl rfl rfl) ?_
    refine ol_nil ?_
    refine seq_pick 64 [(0, _), (3, _), (4, _), (5, _), (6, _), (15, _)] [(5, _)] rfl ⟨rfl, rfl, rfl, rfl, rfl, rfl, trivial⟩ ⟨rfl, trivial⟩ ?_
    refine code_cond rfl (fun h1 => ?_) (fun h1 => ?_)
    · try simp only [decide_eq_true_eq, decide_eq_false_iff_not, Bool.not_eq_true', Bool.not_eq_false', Bool.and_eq_true, Bool.or_eq_true, Bool.and_eq_false_iff, List.length_map, Int.toNat_natCast] at h1
      refine code_skip ?_
      refine seq_pick 64 [(0, _), (3, _), (4, _), (5, _), (6, _)] [(5, _)] rfl ⟨rfl, rfl, rfl, rfl, rfl, trivial⟩ ⟨rfl, trivial⟩ ?_
      refine code_seq ?_
      refine code_block ?_
      refine code_seq ?_
      refine code_ops _ rfl ?_
      refine ol_pure rfl rfl rfl (pure_move rfl rfl) ?_
      refine ol_pure rfl rfl rfl (pure_move rfl rfl) ?_
      refine ol_pure rfl rfl rfl (pure_addi rfl rfl rfl (by omega)) ?_
      refine ol_pure rfl rfl rfl (pure_remn rfl rfl rfl (by omega)) ?_
      refine ol_pure rfl rfl rfl (pure_call rfl rfl rfl (pool_call (by omega)) hM0) ?_
      refine ol_pure rfl rfl rfl (pure_move rfl rfl) ?_
      refine ol_pure rfl rfl rfl (pure_move rfl rfl) ?_
      refine ol_pick 64 [(0, _), (3, _), (4, _), (5, _), (6, _), (22, _), (23, _), (24, _)] [(5, _)] rfl ⟨rfl, rfl, rfl, rfl, rfl, rfl, rfl, rfl, trivial⟩ ⟨rfl, trivial⟩ ?_
      refine ol_pure rfl rfl rfl (pure_move rfl rfl) ?_
      refine ol_pure rfl rfl rfl (pure_addi rfl rfl rfl (by omega)) ?_
      refine ol_pure rfl rfl rfl (pure_call rfl rfl rfl (at_call (by assumption) (by omega)) hM0) ?_
      refine ol_pure rfl rfl rfl (pure_addi rfl rfl rfl (by omega)) ?_
      refine ol_pure rfl rfl rfl (pure_build rfl pl48 ze48 rfl rfl rfl) ?_
      refine ol_step rfl (step_alloc rfl rfl rfl rfl ze48 rfl hM0) ?_
      refine ol_step rfl (step_store_box rfl rfl rfl sz48 rfl rfl rfl rfl (by decide) rfl rfl hM0) ?_
      refine ol_nil ?_
      refine seq_pick 64 [(0, _), (3, _), (4, _), (5, _), (6, _), (7, _)] [(5, _), (7, _)] rfl ⟨rfl, rfl, rfl, rfl, rfl, rfl, trivial⟩ ⟨rfl, rfl, trivial⟩ ?_
      refine code_seq ?_
      refine code_seq ?_
      refine code_ops _ rfl ?_
      refine ol_pure rfl rfl rfl (pure_move rfl rfl) ?_
      refine ol_pure rfl rfl rfl (pure_gtr rfl rfl rfl) ?_
      refine ol_pure rfl rfl rfl (pure_move rfl rfl) ?_
      refine ol_guard rfl (fun h2 => ?_) (fun h2 => ?_)
      · have h2' := h2; try simp only [decide_eq_true_eq, decide_eq_false_iff_not, Bool.not_eq_true', Bool.not_eq_false', Bool.and_eq_true, Bool.or_eq_true, Bool.and_eq_false_iff, List.length_map, Int.toNat_natCast] at h2'
        refine ol_pure_g rfl rfl h2 rfl rfl (pure_move rfl rfl) ?_
        refine ol_pure_g rfl rfl h2 rfl rfl (pure_move rfl rfl) ?_
        refine ol_pure_g rfl rfl h2 rfl rfl (pure_addi rfl rfl rfl (by omega)) ?_
        refine ol_pure_g rfl rfl h2 rfl rfl (pure_call rfl rfl rfl (at_call (by assumption) (by omega)) hM0) ?_
        refine ol_pure_g rfl rfl h2 rfl rfl (pure_eql rfl rfl rfl) ?_
        refine ol_pure rfl rfl rfl (pure_pick_t rfl rfl h2 rfl) ?_
        refine ol_nil ?_
        refine seq_pick 64 [(0, _), (3, _), (4, _), (5, _), (6, _), (7, _), (38, _)] [(5, _), (7, _)] rfl ⟨rfl, rfl, rfl, rfl, rfl, rfl, rfl, trivial⟩ ⟨rfl, rfl, trivial⟩ ?_
        refine code_cond rfl (fun h3 => ?_) (fun h3 => ?_)
        · try simp only [decide_eq_true_eq, decide_eq_false_iff_not, Bool.not_eq_true', Bool.not_eq_false', Bool.and_eq_true, Bool.or_eq_true, Bool.and_eq_false_iff, List.length_map, Int.toNat_natCast] at h3
          refine code_seq ?_
          refine code_ops _ rfl ?_
          refine ol_pure rfl rfl rfl (pure_move rfl rfl) ?_
          refine ol_pure rfl rfl rfl (pure_move rfl rfl) ?_
          refine ol_pure rfl rfl rfl (pure_move rfl rfl) ?_
          refine ol_pure rfl rfl rfl (pure_addi rfl rfl rfl (by omega)) ?_
          refine ol_pure rfl rfl rfl (pure_move rfl rfl) ?_
          refine ol_pure rfl rfl rfl (pure_call rfl rfl rfl (at_call (by assumption) (by omega)) hM0) ?_
          refine ol_pure rfl rfl rfl (pure_index_own rfl Try.underlying24 sz48 rfl rfl rfl (by simp only [List.length_map]; have := b5 (by omega); omega)) ?_
          refine ol_pick 64 [(0, _), (3, _), (4, _), (5, _), (6, _), (7, _), (45, _)] [(5, _), (7, _)] rfl ⟨rfl, rfl, rfl, rfl, rfl, rfl, rfl, trivial⟩ ⟨rfl, rfl, trivial⟩ ?_
          refine ol_pure rfl rfl rfl (pure_field_pel rfl fd48_1 rfl rfl) ?_
          refine ol_pure rfl rfl rfl (pure_load_pel rfl ag3 rfl rfl (mget (by have := b5 (by omega); omega)) rfl) ?_
          refine ol_pure rfl rfl rfl (pure_field_box rfl fd48_1 rfl rfl) ?_
          refine ol_step rfl (step_store_box rfl rfl rfl sz3 rfl rfl rfl rfl (by decide) rfl rfl hM0) ?_
          refine ol_nil ?_
          refine seq_pick 64 [(0, _), (3, _), (4, _), (5, _), (6, _), (7, _)] [(5, _), (7, _)] rfl ⟨rfl, rfl, rfl, rfl, rfl, rfl, trivial⟩ ⟨rfl, rfl, trivial⟩ ?_
          refine code_seq ?_
          refine code_ops _ rfl ?_
          refine ol_pure rfl rfl rfl (pure_move rfl rfl) ?_
          refine ol_pure rfl rfl rfl (pure_move rfl rfl) ?_
          refine ol_pure rfl rfl rfl (pure_addi rfl rfl rfl (by omega)) ?_
          refine ol_pure rfl rfl rfl (pure_call rfl rfl rfl (at_call (by assumption) (by omega)) hM0) ?_
          refine ol_pure rfl rfl rfl (pure_field_box rfl fd48_2 rfl rfl) ?_
          refine ol_step rfl (step_store_box rfl rfl rfl sz3 rfl rfl rfl rfl (by decide) rfl rfl hM0) ?_
          refine ol_nil ?_
          refine seq_pick 64 [(0, _), (3, _), (4, _), (5, _), (6, _), (7, _)] [(5, _), (7, _)] rfl ⟨rfl, rfl, rfl, rfl, rfl, rfl, trivial⟩ ⟨rfl, rfl, trivial⟩ ?_
          refine code_ops _ rfl ?_
          refine ol_pure rfl rfl rfl (pure_move rfl rfl) ?_
          refine ol_pure rfl rfl rfl (pure_move rfl rfl) ?_
          refine ol_pure rfl rfl rfl (pure_addi rfl rfl rfl (by omega)) ?_
          refine ol_pure rfl rfl rfl (pure_call rfl rfl rfl (at_call (by assumption) (by omega)) hM0) ?_
          refine ol_pure rfl rfl rfl (pure_field_box rfl fd48_3 rfl rfl) ?_
          refine ol_step rfl (step_store_box rfl rfl rfl sz3 rfl rfl rfl rfl (by decide) rfl rfl hM0) ?_
          refine ol_nil ?_
          refine seq_pick 64 [(0, _), (3, _), (4, _), (5, _), (6, _), (7, _)] [(5, _), (7, _)] rfl ⟨rfl, rfl, rfl, rfl, rfl, rfl, trivial⟩ ⟨rfl, rfl, trivial⟩ ?_
          refine code_ops _ rfl ?_
          refine ol_pure rfl rfl rfl (pure_move rfl rfl) ?_
          refine ol_pure rfl rfl rfl (pure_load_box_agg rfl ag48 sz48 rfl rfl rfl rfl) ?_
          refine ol_pure rfl rfl rfl (pure_lit rfl Try.underlying24 el48 rfl rfl rfl rfl hM0) ?_
          refine ol_step rfl (step_append rfl rfl rfl rfl Try.underlying24 el48 rfl rfl hM0 (src_pl rfl (one_len (by rfl))) (by first | (simp only [List.length_map, List.length_append, List.length_cons, List.length_nil, List.length_set, List.length_replicate, List.length_take, List.length_drop, List.length_range]; omega) | omega) (by first | (simp only [List.length_map, List.length_append, List.length_cons, List.length_nil, List.length_set, List.length_replicate, List.length_take, List.length_drop, List.length_range]; omega) | omega)) ?_
          refine ol_pure rfl rfl rfl (pure_assign rfl rfl) ?_
          refine ol_nil ?_
          refine blockQ_normal ?_
          refine seq_pick 64 [(0, _), (3, _), (4, _), (5, _), (6, _)] [(5, _)] rfl ⟨rfl, rfl, rfl, rfl, rfl, trivial⟩ ⟨rfl, trivial⟩ ?_
          refine code_ops _ rfl ?_
          refine ol_pure rfl rfl rfl (pure_move rfl rfl) ?_
          refine ol_pure rfl rfl rfl (pure_addi rfl rfl rfl (by omega)) ?_
          refine ol_pure rfl rfl rfl (pure_assign rfl rfl) ?_
          refine ol_nil ?_
          refine loop_next (n := 64) (l := [(0, _), (3, _), (4, _), (5, _), (6, _)]) (o' := [(5, _)]) rfl ⟨rfl, rfl, rfl, rfl, rfl, trivial⟩ ⟨rfl, trivial⟩ ?_   -- loop 1 end 1
          exact ⟨_, ⟨i + 1, rfl, by omega, by rw [lettersN, List.map_append, List.map_singleton, letterI]; first | (rw [if_pos ⟨by omega, by omega⟩]; rfl) | (rw [if_neg (by omega)]; rfl)⟩, by omega⟩
        · try simp only [decide_eq_true_eq, decide_eq_false_iff_not, Bool.not_eq_true', Bool.not_eq_false', Bool.and_eq_true, Bool.or_eq_true, Bool.and_eq_false_iff, List.length_map, Int.toNat_natCast] at h3
          refine code_skip ?_
          refine seq_pick 64 [(0, _), (3, _), (4, _), (5, _), (6, _), (7, _)] [(5, _), (7, _)] rfl ⟨rfl, rfl, rfl, rfl, rfl, rfl, trivial⟩ ⟨rfl, rfl, trivial⟩ ?_
          refine code_ops _ rfl ?_
          refine ol_pure rfl rfl rfl (pure_move rfl rfl) ?_
          refine ol_pure rfl rfl rfl (pure_load_box_agg rfl ag48 sz48 rfl rfl rfl rfl) ?_
          refine ol_pure rfl rfl rfl (pure_lit rfl Try.underlying24 el48 rfl rfl rfl rfl hM0) ?_
          refine ol_step rfl (step_append rfl rfl rfl rfl Try.underlying24 el48 rfl rfl hM0 (src_pl rfl (one_len (by rfl))) (by first | (simp only [List.length_map, List.length_append, List.length_cons, List.length_nil, List.length_set, List.length_replicate, List.length_take, List.length_drop, List.length_range]; omega) | omega) (by first | (simp only [List.length_map, List.length_append, List.length_cons, List.length_nil, List.length_set, List.length_replicate, List.length_take, List.length_drop, List.length_range]; omega) | omega)) ?_
          refine ol_pure rfl rfl rfl (pure_assign rfl rfl) ?_
          refine ol_nil ?_
          refine blockQ_normal ?_
          refine seq_pick 64 [(0, _), (3, _), (4, _), (5, _), (6, _)] [(5, _)] rfl ⟨rfl, rfl, rfl, rfl, rfl, trivial⟩ ⟨rfl, trivial⟩ ?_
          refine code_ops _ rfl ?_
          refine ol_pure rfl rfl rfl (pure_move rfl rfl) ?_
          refine ol_pure rfl rfl rfl (pure_addi rfl rfl rfl (by omega)) ?_
          refine ol_pure rfl rfl rfl (pure_assign rfl rfl) ?_
          refine ol_nil ?_
          refine loop_next (n := 64) (l := [(0, _), (3, _), (4, _), (5, _), (6, _)]) (o' := [(5, _)]) rfl ⟨rfl, rfl, rfl, rfl, rfl, trivial⟩ ⟨rfl, trivial⟩ ?_   -- loop 1 end 2
          exact ⟨_, ⟨i + 1, rfl, by omega, by rw [lettersN, List.map_append, List.map_singleton, letterI]; first | (rw [if_pos ⟨by omega, by omega⟩]; rfl) | (rw [if_neg (by omega)]; rfl)⟩, by omega⟩
      · have h2' := h2; try simp only [decide_eq_true_eq, decide_eq_false_iff_not, Bool.not_eq_true', Bool.not_eq_false', Bool.and_eq_true, Bool.or_eq_true, Bool.and_eq_false_iff, List.length_map, Int.toNat_natCast] at h2'
        refine ol_skip_g rfl rfl h2 rfl rfl ?_
        refine ol_skip_g rfl rfl h2 rfl rfl ?_
        refine ol_skip_g rfl rfl h2 rfl rfl ?_
        refine ol_skip_g rfl rfl h2 rfl rfl ?_
        refine ol_skip_g rfl rfl h2 rfl rfl ?_
        refine ol_pure rfl rfl rfl (pure_pick_f rfl rfl h2 rfl) ?_
        refine ol_nil ?_
        refine seq_pick 64 [(0, _), (3, _), (4, _), (5, _), (6, _), (7, _), (38, _)] [(5, _), (7, _)] rfl ⟨rfl, rfl, rfl, rfl, rfl, rfl, rfl, trivial⟩ ⟨rfl, rfl, trivial⟩ ?_
        refine code_cond_f rfl ?_
        refine code_skip ?_
        refine seq_pick 64 [(0, _), (3, _), (4, _), (5, _), (6, _), (7, _)] [(5, _), (7, _)] rfl ⟨rfl, rfl, rfl, rfl, rfl, rfl, trivial⟩ ⟨rfl, rfl, trivial⟩ ?_
        refine code_ops _ rfl ?_
        refine ol_pure rfl rfl rfl (pure_move rfl rfl) ?_
        refine ol_pure rfl rfl rfl (pure_load_box_agg rfl ag48 sz48 rfl rfl rfl rfl) ?_
        refine ol_pure rfl rfl rfl (pure_lit rfl Try.underlying24 el48 rfl rfl rfl rfl hM0) ?_
        refine ol_step rfl (step_append rfl rfl rfl rfl Try.underlying24 el48 rfl rfl hM0 (src_pl rfl (one_len (by rfl))) (by first | (simp only [List.length_map, List.length_append, List.length_cons, List.length_nil, List.length_set, List.length_replicate, List.length_take, List.length_drop, List.length_range]; omega) | omega) (by first | (simp only [List.length_map, List.length_append, List.length_cons, List.length_nil, List.length_set, List.length_replicate, List.length_take, List.length_drop, List.length_range]; omega) | omega)) ?_
        refine ol_pure rfl rfl rfl (pure_assign rfl rfl) ?_
        refine ol_nil ?_
        refine blockQ_normal ?_
        refine seq_pick 64 [(0, _), (3, _), (4, _), (5, _), (6, _)] [(5, _)] rfl ⟨rfl, rfl, rfl, rfl, rfl, trivial⟩ ⟨rfl, trivial⟩ ?_
        refine code_ops _ rfl ?_
        refine ol_pure rfl rfl rfl (pure_move rfl rfl) ?_
        refine ol_pure rfl rfl rfl (pure_addi rfl rfl rfl (by omega)) ?_
        refine ol_pure rfl rfl rfl (pure_assign rfl rfl) ?_
        refine ol_nil ?_
        refine loop_next (n := 64) (l := [(0, _), (3, _), (4, _), (5, _), (6, _)]) (o' := [(5, _)]) rfl ⟨rfl, rfl, rfl, rfl, rfl, trivial⟩ ⟨rfl, trivial⟩ ?_   -- loop 1 end 3
        exact ⟨_, ⟨i + 1, rfl, by omega, by rw [lettersN, List.map_append, List.map_singleton, letterI]; first | (rw [if_pos ⟨by omega, by omega⟩]; rfl) | (rw [if_neg (by omega)]; rfl)⟩, by omega⟩
    · try simp only [decide_eq_true_eq, decide_eq_false_iff_not, Bool.not_eq_true', Bool.not_eq_false', Bool.and_eq_true, Bool.or_eq_true, Bool.and_eq_false_iff, List.length_map, Int.toNat_natCast] at h1
      refine code_exit ?_
      refine seqQ_exit ?_
      refine loopM_exit ?_
      refine blockQ_same ?_
      refine seq_pick 64 [(5, _)] [(5, _)] rfl ⟨rfl, trivial⟩ ⟨rfl, trivial⟩ ?_
      refine code_seq ?_
      refine code_ops _ rfl ?_
      refine ol_pure rfl rfl rfl (pure_move rfl rfl) ?_
      refine ol_pure rfl rfl rfl (pure_assign rfl rfl) ?_
      refine ol_nil ?_
      refine seq_pick 64 [(2, _)] [(5, _)] rfl ⟨rfl, trivial⟩ ⟨rfl, trivial⟩ ?_
      refine code_ret ?_
      refine end_ret rfl ?_   -- end 1
      rw [lettersP, show i = (3 + atL l 0 6).toNat by omega]
end Go.Proofs.Ytcimmcjnkphagaa
