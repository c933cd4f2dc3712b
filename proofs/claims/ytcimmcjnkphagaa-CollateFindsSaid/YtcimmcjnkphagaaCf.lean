/-
  Contract of the reference's Find.
-/
import Derived.Test.YtcimmcjnkphagaaCe
namespace Go.Proofs.Ytcimmcjnkphagaa
open Go.Am Go.Wb
set_option linter.unusedVariables false
set_option linter.unusedSimpArgs false

theorem fn31 : Fn2 Try.prog 31 Try.f31.ntmps 8 9 (Try.f31.body.getD .skip) := ⟨Try.f31, Try.func31, rfl, rfl, rfl, by kernel_rfl⟩
set_option maxRecDepth 100000 in
set_option maxHeartbeats 2000000 in
theorem rfind_call {a : List Letter} {l : List (List Int)} {w : List Int} {k : Int} (ha : a.length ≤ 1099511627776) (ht : ∀ x ∈ a, x.text.length ≤ 1099511627776) (hl : l.length ≤ 1099511627776) (hll : shortL l) (hw : w.length ≤ 1099511627776) :
    CallF Try.prog 31 [letters a, intss l, ints w, int k] (.p (.tup (if validA a = true ∧ 1 ≤ k ∧ k ≤ 4 then [int (lessN a w k.toNat l), int (lessN a w k.toNat l + sameN a w k.toNat l)] else [int 0, int 0]))) := by
  suffices h : CallF Try.prog 31 [letters a, intss l, ints w, int k] (.p (.tup [int (if validA a = true ∧ 1 ≤ k ∧ k ≤ 4 then lessN a w k.toNat l else 0 : Nat), int (if validA a = true ∧ 1 ≤ k ∧ k ≤ 4 then lessN a w k.toNat l + sameN a w k.toNat l else 0 : Nat)])) by
    split at h <;> (rename_i hc; simp only [hc, if_true, if_false, and_self] at h ⊢; exact h)
  refine callF_of_code2 fn31 (Nat.le_of_ble_eq_true rfl) fun w0 M0 hM0 => ?_
  refine code_seq ?_
  refine code_ops _ rfl ?_
  refine ol_pure rfl rfl rfl (pure_assign rfl rfl) ?_
  refine ol_pure rfl rfl rfl (pure_assign rfl rfl) ?_
  refine ol_nil ?_
  refine seq_pick 51 [(0, _), (1, _), (2, _), (3, _)] [] rfl ⟨rfl, rfl, rfl, rfl, trivial⟩ trivial ?_
  refine code_seq ?_
  refine code_seq ?_
  refine code_ops _ rfl ?_
  refine ol_pure rfl rfl rfl (pure_move rfl rfl) ?_
  refine ol_pure rfl rfl rfl (pure_call rfl rfl rfl (rvalid_call (by assumption) (by assumption)) hM0) ?_
  refine ol_pure rfl rfl rfl (pure_not rfl rfl) ?_
  refine ol_pure rfl rfl rfl (pure_move rfl rfl) ?_
  refine ol_guard rfl (fun h1 => ?_) (fun h1 => ?_)
  · have h1' := h1; try simp only [decide_eq_true_eq, decide_eq_false_iff_not, Bool.not_eq_true', Bool.not_eq_false', Bool.and_eq_true, Bool.or_eq_true, Bool.and_eq_false_iff, List.length_map, Int.toNat_natCast] at h1'
    refine ol_skip_g rfl rfl h1 rfl rfl ?_
    refine ol_skip_g rfl rfl h1 rfl rfl ?_
    refine ol_pure rfl rfl rfl (pure_pick_t rfl rfl h1 rfl) ?_
    refine ol_pick 51 [(0, _), (1, _), (2, _), (3, _), (20, _)] [] rfl ⟨rfl, rfl, rfl, rfl, rfl, trivial⟩ trivial ?_
    refine ol_pure rfl rfl rfl (pure_move rfl rfl) ?_
    refine ol_skip_g rfl rfl rfl rfl rfl ?_
    refine ol_skip_g rfl rfl rfl rfl rfl ?_
    refine ol_pure rfl rfl rfl (pure_pick_t rfl rfl rfl rfl) ?_
    refine ol_nil ?_
    refine seq_pick 51 [(0, _), (1, _), (2, _), (3, _), (24, _)] [] rfl ⟨rfl, rfl, rfl, rfl, rfl, trivial⟩ trivial ?_
    refine code_cond_t rfl ?_
    refine code_seq ?_
    refine code_ops _ rfl ?_
    refine ol_pure rfl rfl rfl (pure_assign rfl rfl) ?_
    refine ol_pure rfl rfl rfl (pure_assign rfl rfl) ?_
    refine ol_nil ?_
    refine seq_pick 51 [(8, _), (9, _)] [] rfl ⟨rfl, rfl, trivial⟩ trivial ?_
    refine code_ret ?_
    refine seqQ_ret ?_
    refine end2_ret rfl rfl ?_   -- end 1
    refine ⟨?_, ?_⟩ <;> first | (rw [if_neg (by rintro ⟨q1, q2, q3⟩; first | omega | simp_all)]; rfl) | (rw [if_pos ⟨by assumption, by omega, by omega⟩, List.take_of_length_le (by omega)]; rfl)
  · have h1' := h1; try simp only [decide_eq_true_eq, decide_eq_false_iff_not, Bool.not_eq_true', Bool.not_eq_false', Bool.and_eq_true, Bool.or_eq_true, Bool.and_eq_false_iff, List.length_map, Int.toNat_natCast] at h1'
    refine ol_pure_g rfl rfl h1 rfl rfl (pure_move rfl rfl) ?_
    refine ol_pure_g rfl rfl h1 rfl rfl (pure_lss rfl rfl rfl) ?_
    refine ol_pure rfl rfl rfl (pure_pick_f rfl rfl h1 rfl) ?_
    refine ol_pick 51 [(0, _), (1, _), (2, _), (3, _), (20, _)] [] rfl ⟨rfl, rfl, rfl, rfl, rfl, trivial⟩ trivial ?_
    refine ol_pure rfl rfl rfl (pure_move rfl rfl) ?_
    refine ol_guard rfl (fun h2 => ?_) (fun h2 => ?_)
    · have h2' := h2; try simp only [decide_eq_true_eq, decide_eq_false_iff_not, Bool.not_eq_true', Bool.not_eq_false', Bool.and_eq_true, Bool.or_eq_true, Bool.and_eq_false_iff, List.length_map, Int.toNat_natCast] at h2'
      refine ol_skip_g rfl rfl h2 rfl rfl ?_
      refine ol_skip_g rfl rfl h2 rfl rfl ?_
      refine ol_pure rfl rfl rfl (pure_pick_t rfl rfl h2 rfl) ?_
      refine ol_nil ?_
      refine seq_pick 51 [(0, _), (1, _), (2, _), (3, _), (24, _)] [] rfl ⟨rfl, rfl, rfl, rfl, rfl, trivial⟩ trivial ?_
      refine code_cond_t rfl ?_
      refine code_seq ?_
      refine code_ops _ rfl ?_
      refine ol_pure rfl rfl rfl (pure_assign rfl rfl) ?_
      refine ol_pure rfl rfl rfl (pure_assign rfl rfl) ?_
      refine ol_nil ?_
      refine seq_pick 51 [(8, _), (9, _)] [] rfl ⟨rfl, rfl, trivial⟩ trivial ?_
      refine code_ret ?_
      refine seqQ_ret ?_
      refine end2_ret rfl rfl ?_   -- end 2
      refine ⟨?_, ?_⟩ <;> first | (rw [if_neg (by rintro ⟨q1, q2, q3⟩; first | omega | simp_all)]; rfl) | (rw [if_pos ⟨by assumption, by omega, by omega⟩, List.take_of_length_le (by omega)]; rfl)
    · have h2' := h2; try simp only [decide_eq_true_eq, decide_eq_false_iff_not, Bool.not_eq_true', Bool.not_eq_false', Bool.and_eq_true, Bool.or_eq_true, Bool.and_eq_false_iff, List.length_map, Int.toNat_natCast] at h2'
      refine ol_pure_g rfl rfl h2 rfl rfl (pure_move rfl rfl) ?_
      refine ol_pure_g rfl rfl h2 rfl rfl (pure_gtr rfl rfl rfl) ?_
      refine ol_pure rfl rfl rfl (pure_pick_f rfl rfl h2 rfl) ?_
      refine ol_nil ?_
      refine seq_pick 51 [(0, _), (1, _), (2, _), (3, _), (24, _)] [] rfl ⟨rfl, rfl, rfl, rfl, rfl, trivial⟩ trivial ?_
      refine code_cond rfl (fun h3 => ?_) (fun h3 => ?_)
      · try simp only [decide_eq_true_eq, decide_eq_false_iff_not, Bool.not_eq_true', Bool.not_eq_false', Bool.and_eq_true, Bool.or_eq_true, Bool.and_eq_false_iff, List.length_map, Int.toNat_natCast] at h3
        refine code_seq ?_
        refine code_ops _ rfl ?_
        refine ol_pure rfl rfl rfl (pure_assign rfl rfl) ?_
        refine ol_pure rfl rfl rfl (pure_assign rfl rfl) ?_
        refine ol_nil ?_
        refine seq_pick 51 [(8, _), (9, _)] [] rfl ⟨rfl, rfl, trivial⟩ trivial ?_
        refine code_ret ?_
        refine seqQ_ret ?_
        refine end2_ret rfl rfl ?_   -- end 3
        refine ⟨?_, ?_⟩ <;> first | (rw [if_neg (by rintro ⟨q1, q2, q3⟩; first | omega | simp_all)]; rfl) | (rw [if_pos ⟨by assumption, by omega, by omega⟩, List.take_of_length_le (by omega)]; rfl)
      · try simp only [decide_eq_true_eq, decide_eq_false_iff_not, Bool.not_eq_true', Bool.not_eq_false', Bool.and_eq_true, Bool.or_eq_true, Bool.and_eq_false_iff, List.length_map, Int.toNat_natCast] at h3
        refine code_skip ?_
        refine seq_pick 51 [(0, _), (1, _), (2, _), (3, _)] [] rfl ⟨rfl, rfl, rfl, rfl, trivial⟩ trivial ?_
        refine code_seq ?_
        refine code_ops _ rfl ?_
        refine ol_pure rfl rfl rfl (pure_assign rfl rfl) ?_
        refine ol_nil ?_
        refine seq_pick 51 [(0, _), (1, _), (2, _), (3, _), (10, _)] [] rfl ⟨rfl, rfl, rfl, rfl, rfl, trivial⟩ trivial ?_
        refine code_seq ?_
        refine code_ops _ rfl ?_
        refine ol_pure rfl rfl rfl (pure_assign rfl rfl) ?_
        refine ol_nil ?_
        refine seq_pick 51 [(0, _), (1, _), (2, _), (3, _), (10, _), (11, _)] [] rfl ⟨rfl, rfl, rfl, rfl, rfl, rfl, trivial⟩ trivial ?_
        refine code_seq ?_
        refine code_seq ?_
        refine code_ops _ rfl ?_
        refine ol_pure rfl rfl rfl (pure_assign rfl rfl) ?_
        refine ol_nil ?_
        refine seq_pick 51 [(0, _), (1, _), (2, _), (3, _), (10, _), (11, _), (12, _)] [] rfl ⟨rfl, rfl, rfl, rfl, rfl, rfl, rfl, trivial⟩ trivial ?_
        refine code_block ?_
        refine code_loopM (fun zm zs => ∃ i : Nat, zm = l.length - i ∧ (i ≤ l.length) ∧ zs = ⟨51, [(0, .v .mx (letters a)), (1, .v .mx (intss l)), (2, .v .mx (ints w)), (3, .v .mx (int k)), (10, .v .pl (int (lessN a w k.toNat (l.take i)))), (11, .v .pl (int (sameN a w k.toNat (l.take i)))), (12, .v .pl (int i))], []⟩) (loop_init (n := 51) (l := [(0, _), (1, _), (2, _), (3, _), (10, _), (11, _), (12, _)]) (o' := []) rfl ⟨rfl, rfl, rfl, rfl, rfl, rfl, rfl, trivial⟩ trivial ?_) ?_
        · exact ⟨_, 0, rfl, Nat.zero_le _, rfl⟩
        · rintro zm zs ⟨i, rfl, hL1_0, rfl⟩
          have hn1 : lessN a w k.toNat (l.take i) ≤ l.length := countP_le_take _ _ _
          have hn2 : sameN a w k.toNat (l.take i) ≤ l.length := countP_le_take _ _ _
          refine code_seq ?_
          refine code_seq ?_
          refine code_ops _ rfl ?_
          refine ol_pure rfl rfl rfl (pure_move rfl rfl) ?_
          refine ol_pure rfl rfl rfl (pure_move rfl rfl) ?_
          refine ol_pure rfl rfl rfl (pure_lenm rfl Try.underlying23 rfl) ?_
          refine ol_pure rfl rfl rfl (pure_lss rfl rfl rfl) ?_
          refine ol_nil ?_
          refine seq_pick 51 [(0, _), (1, _), (2, _), (3, _), (10, _), (11, _), (12, _), (28, _)] [] rfl ⟨rfl, rfl, rfl, rfl, rfl, rfl, rfl, rfl, trivial⟩ trivial ?_
          refine code_cond rfl (fun h4 => ?_) (fun h4 => ?_)
          · try simp only [decide_eq_true_eq, decide_eq_false_iff_not, Bool.not_eq_true', Bool.not_eq_false', Bool.and_eq_true, Bool.or_eq_true, Bool.and_eq_false_iff, List.length_map, Int.toNat_natCast] at h4
            refine code_skip ?_
            refine seq_pick 51 [(0, _), (1, _), (2, _), (3, _), (10, _), (11, _), (12, _)] [] rfl ⟨rfl, rfl, rfl, rfl, rfl, rfl, rfl, trivial⟩ trivial ?_
            refine code_seq ?_
            refine code_block ?_
            refine code_seq ?_
            refine code_ops _ rfl ?_
            refine ol_pure rfl rfl rfl (pure_move rfl rfl) ?_
            refine ol_pure rfl rfl rfl (pure_move rfl rfl) ?_
            refine ol_pure rfl rfl rfl (pure_move rfl rfl) ?_
            first | refine ol_pure rfl rfl rfl (pure_indexn rfl Try.underlying23 sz22 rfl rfl (by omega) (fun _ => rfl)) ?_ | refine ol_pure rfl rfl rfl (pure_indexm rfl Try.underlying23 sz22 rfl rfl (by omega) (fun _ => rfl)) ?_
            refine ol_pure rfl rfl rfl (pure_load rfl ag22 rfl rfl) ?_
            refine ol_pure rfl rfl rfl (pure_move rfl rfl) ?_
            refine ol_pure rfl rfl rfl (pure_move rfl rfl) ?_
            refine ol_pure rfl rfl rfl (pure_call rfl rfl rfl (upto_call (by assumption) (by first | assumption | exact shortL.get (by assumption) _) (by first | assumption | exact shortL.get (by assumption) _) (by omega)) hM0) ?_
            refine ol_pure rfl rfl rfl (pure_assign rfl rfl) ?_
            refine ol_nil ?_
            refine seq_pick 51 [(0, _), (1, _), (2, _), (3, _), (10, _), (11, _), (12, _), (13, _)] [] rfl ⟨rfl, rfl, rfl, rfl, rfl, rfl, rfl, rfl, trivial⟩ trivial ?_
            refine code_seq ?_
            refine code_seq ?_
            refine code_ops _ rfl ?_
            refine ol_pure rfl rfl rfl (pure_move rfl rfl) ?_
            refine ol_pure rfl rfl rfl (pure_lss rfl rfl rfl) ?_
            refine ol_nil ?_
            refine seq_pick 51 [(0, _), (1, _), (2, _), (3, _), (10, _), (11, _), (12, _), (13, _), (40, _)] [] rfl ⟨rfl, rfl, rfl, rfl, rfl, rfl, rfl, rfl, rfl, trivial⟩ trivial ?_
            refine code_cond rfl (fun h5 => ?_) (fun h5 => ?_)
            · try simp only [decide_eq_true_eq, decide_eq_false_iff_not, Bool.not_eq_true', Bool.not_eq_false', Bool.and_eq_true, Bool.or_eq_true, Bool.and_eq_false_iff, List.length_map, Int.toNat_natCast] at h5
              refine code_ops _ rfl ?_
              refine ol_pure rfl rfl rfl (pure_move rfl rfl) ?_
              refine ol_pure rfl rfl rfl (pure_addi rfl rfl rfl (by omega)) ?_
              refine ol_pure rfl rfl rfl (pure_assign rfl rfl) ?_
              refine ol_nil ?_
              refine seq_pick 51 [(0, _), (1, _), (2, _), (3, _), (10, _), (11, _), (12, _), (13, _)] [] rfl ⟨rfl, rfl, rfl, rfl, rfl, rfl, rfl, rfl, trivial⟩ trivial ?_
              refine code_seq ?_
              refine code_ops _ rfl ?_
              refine ol_pure rfl rfl rfl (pure_move rfl rfl) ?_
              refine ol_pure rfl rfl rfl (pure_eql rfl rfl rfl) ?_
              refine ol_nil ?_
              refine seq_pick 51 [(0, _), (1, _), (2, _), (3, _), (10, _), (11, _), (12, _), (44, _)] [] rfl ⟨rfl, rfl, rfl, rfl, rfl, rfl, rfl, rfl, trivial⟩ trivial ?_
              refine code_cond rfl (fun h6 => ?_) (fun h6 => ?_)
              · try simp only [decide_eq_true_eq, decide_eq_false_iff_not, Bool.not_eq_true', Bool.not_eq_false', Bool.and_eq_true, Bool.or_eq_true, Bool.and_eq_false_iff, List.length_map, Int.toNat_natCast] at h6
                refine code_ops _ rfl ?_
                refine ol_pure rfl rfl rfl (pure_move rfl rfl) ?_
                refine ol_pure rfl rfl rfl (pure_addi rfl rfl rfl (by omega)) ?_
                refine ol_pure rfl rfl rfl (pure_assign rfl rfl) ?_
                refine ol_nil ?_
                refine blockQ_normal ?_
                refine seq_pick 51 [(0, _), (1, _), (2, _), (3, _), (10, _), (11, _), (12, _)] [] rfl ⟨rfl, rfl, rfl, rfl, rfl, rfl, rfl, trivial⟩ trivial ?_
                refine code_ops _ rfl ?_
                refine ol_pure rfl rfl rfl (pure_move rfl rfl) ?_
                refine ol_pure rfl rfl rfl (pure_addi rfl rfl rfl (by omega)) ?_
                refine ol_pure rfl rfl rfl (pure_assign rfl rfl) ?_
                refine ol_nil ?_
                refine loop_next (n := 51) (l := [(0, _), (1, _), (2, _), (3, _), (10, _), (11, _), (12, _)]) (o' := []) rfl ⟨rfl, rfl, rfl, rfl, rfl, rfl, rfl, trivial⟩ trivial ?_   -- loop 1 end 1
                exact ⟨_, ⟨i + 1, rfl, by omega, by rw [lessN_step (by omega), sameN_step (by omega)]; (repeat' split) <;> first | rfl | (exfalso; omega)⟩, by omega⟩
              · try simp only [decide_eq_true_eq, decide_eq_false_iff_not, Bool.not_eq_true', Bool.not_eq_false', Bool.and_eq_true, Bool.or_eq_true, Bool.and_eq_false_iff, List.length_map, Int.toNat_natCast] at h6
                refine code_skip ?_
                refine blockQ_normal ?_
                refine seq_pick 51 [(0, _), (1, _), (2, _), (3, _), (10, _), (11, _), (12, _)] [] rfl ⟨rfl, rfl, rfl, rfl, rfl, rfl, rfl, trivial⟩ trivial ?_
                refine code_ops _ rfl ?_
                refine ol_pure rfl rfl rfl (pure_move rfl rfl) ?_
                refine ol_pure rfl rfl rfl (pure_addi rfl rfl rfl (by omega)) ?_
                refine ol_pure rfl rfl rfl (pure_assign rfl rfl) ?_
                refine ol_nil ?_
                refine loop_next (n := 51) (l := [(0, _), (1, _), (2, _), (3, _), (10, _), (11, _), (12, _)]) (o' := []) rfl ⟨rfl, rfl, rfl, rfl, rfl, rfl, rfl, trivial⟩ trivial ?_   -- loop 1 end 2
                exact ⟨_, ⟨i + 1, rfl, by omega, by rw [lessN_step (by omega), sameN_step (by omega)]; (repeat' split) <;> first | rfl | (exfalso; omega)⟩, by omega⟩
            · try simp only [decide_eq_true_eq, decide_eq_false_iff_not, Bool.not_eq_true', Bool.not_eq_false', Bool.and_eq_true, Bool.or_eq_true, Bool.and_eq_false_iff, List.length_map, Int.toNat_natCast] at h5
              refine code_skip ?_
              refine seq_pick 51 [(0, _), (1, _), (2, _), (3, _), (10, _), (11, _), (12, _), (13, _)] [] rfl ⟨rfl, rfl, rfl, rfl, rfl, rfl, rfl, rfl, trivial⟩ trivial ?_
              refine code_seq ?_
              refine code_ops _ rfl ?_
              refine ol_pure rfl rfl rfl (pure_move rfl rfl) ?_
              refine ol_pure rfl rfl rfl (pure_eql rfl rfl rfl) ?_
              refine ol_nil ?_
              refine seq_pick 51 [(0, _), (1, _), (2, _), (3, _), (10, _), (11, _), (12, _), (44, _)] [] rfl ⟨rfl, rfl, rfl, rfl, rfl, rfl, rfl, rfl, trivial⟩ trivial ?_
              refine code_cond rfl (fun h7 => ?_) (fun h7 => ?_)
              · try simp only [decide_eq_true_eq, decide_eq_false_iff_not, Bool.not_eq_true', Bool.not_eq_false', Bool.and_eq_true, Bool.or_eq_true, Bool.and_eq_false_iff, List.length_map, Int.toNat_natCast] at h7
                refine code_ops _ rfl ?_
                refine ol_pure rfl rfl rfl (pure_move rfl rfl) ?_
                refine ol_pure rfl rfl rfl (pure_addi rfl rfl rfl (by omega)) ?_
                refine ol_pure rfl rfl rfl (pure_assign rfl rfl) ?_
                refine ol_nil ?_
                refine blockQ_normal ?_
                refine seq_pick 51 [(0, _), (1, _), (2, _), (3, _), (10, _), (11, _), (12, _)] [] rfl ⟨rfl, rfl, rfl, rfl, rfl, rfl, rfl, trivial⟩ trivial ?_
                refine code_ops _ rfl ?_
                refine ol_pure rfl rfl rfl (pure_move rfl rfl) ?_
                refine ol_pure rfl rfl rfl (pure_addi rfl rfl rfl (by omega)) ?_
                refine ol_pure rfl rfl rfl (pure_assign rfl rfl) ?_
                refine ol_nil ?_
                refine loop_next (n := 51) (l := [(0, _), (1, _), (2, _), (3, _), (10, _), (11, _), (12, _)]) (o' := []) rfl ⟨rfl, rfl, rfl, rfl, rfl, rfl, rfl, trivial⟩ trivial ?_   -- loop 1 end 3
                exact ⟨_, ⟨i + 1, rfl, by omega, by rw [lessN_step (by omega), sameN_step (by omega)]; (repeat' split) <;> first | rfl | (exfalso; omega)⟩, by omega⟩
              · try simp only [decide_eq_true_eq, decide_eq_false_iff_not, Bool.not_eq_true', Bool.not_eq_false', Bool.and_eq_true, Bool.or_eq_true, Bool.and_eq_false_iff, List.length_map, Int.toNat_natCast] at h7
                refine code_skip ?_
                refine blockQ_normal ?_
                refine seq_pick 51 [(0, _), (1, _), (2, _), (3, _), (10, _), (11, _), (12, _)] [] rfl ⟨rfl, rfl, rfl, rfl, rfl, rfl, rfl, trivial⟩ trivial ?_
                refine code_ops _ rfl ?_
                refine ol_pure rfl rfl rfl (pure_move rfl rfl) ?_
                refine ol_pure rfl rfl rfl (pure_addi rfl rfl rfl (by omega)) ?_
                refine ol_pure rfl rfl rfl (pure_assign rfl rfl) ?_
                refine ol_nil ?_
                refine loop_next (n := 51) (l := [(0, _), (1, _), (2, _), (3, _), (10, _), (11, _), (12, _)]) (o' := []) rfl ⟨rfl, rfl, rfl, rfl, rfl, rfl, rfl, trivial⟩ trivial ?_   -- loop 1 end 4
                exact ⟨_, ⟨i + 1, rfl, by omega, by rw [lessN_step (by omega), sameN_step (by omega)]; (repeat' split) <;> first | rfl | (exfalso; omega)⟩, by omega⟩
          · try simp only [decide_eq_true_eq, decide_eq_false_iff_not, Bool.not_eq_true', Bool.not_eq_false', Bool.and_eq_true, Bool.or_eq_true, Bool.and_eq_false_iff, List.length_map, Int.toNat_natCast] at h4
            refine code_exit ?_
            refine seqQ_exit ?_
            refine loopM_exit ?_
            refine blockQ_same ?_
            refine seq_pick 51 [(10, _), (11, _)] [] rfl ⟨rfl, rfl, trivial⟩ trivial ?_
            refine code_seq ?_
            refine code_ops _ rfl ?_
            refine ol_pure rfl rfl rfl (pure_move rfl rfl) ?_
            refine ol_pure rfl rfl rfl (pure_move rfl rfl) ?_
            refine ol_pure rfl rfl rfl (pure_move rfl rfl) ?_
            refine ol_pure rfl rfl rfl (pure_addi rfl rfl rfl (by omega)) ?_
            refine ol_pure rfl rfl rfl (pure_assign rfl rfl) ?_
            refine ol_pure rfl rfl rfl (pure_assign rfl rfl) ?_
            refine ol_nil ?_
            refine seq_pick 51 [(8, _), (9, _)] [] rfl ⟨rfl, rfl, trivial⟩ trivial ?_
            refine code_ret ?_
            refine end2_ret rfl rfl ?_   -- end 4
            refine ⟨?_, ?_⟩ <;> first | (rw [if_neg (by rintro ⟨q1, q2, q3⟩; first | omega | simp_all)]; rfl) | (rw [if_pos ⟨by assumption, by omega, by omega⟩, List.take_of_length_le (by omega)]; rfl)
end Go.Proofs.Ytcimmcjnkphagaa
