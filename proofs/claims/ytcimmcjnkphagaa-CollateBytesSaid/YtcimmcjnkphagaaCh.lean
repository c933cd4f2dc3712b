/-
  Contracts of the program's levels and keys.
-/
import Derived.Test.YtcimmcjnkphagaaCg
namespace Go.Proofs.Ytcimmcjnkphagaa
open Go.Am Go.Wb
set_option linter.unusedVariables false
set_option linter.unusedSimpArgs false

theorem fn64 : Fn1 Try.prog 64 Try.f64.ntmps 3 (Try.f64.body.getD .skip) := ⟨Try.f64, Try.func64, rfl, rfl, rfl, by kernel_rfl⟩
set_option maxRecDepth 100000 in
theorem lev1_call {a : List Letter} {x : Int} (hx : 0 ≤ x ∧ x < a.length) : CallF Try.prog 64 [int x, .pc [letters a] 0] (.p (int (lev a 1 x))) := by
  refine callF_of_code fn64 (Nat.le_of_ble_eq_true rfl) fun w0 M0 hM0 => ?_
  refine code_seq ?_
  refine code_ops _ rfl ?_
  refine ol_pure rfl rfl rfl (pure_assign rfl rfl) ?_
  refine ol_nil ?_
  refine seq_pick 9 [(0, _), (1, _)] [] rfl ⟨rfl, rfl, trivial⟩ trivial ?_
  refine code_seq ?_
  refine code_ops _ rfl ?_
  refine ol_pure rfl rfl rfl (pure_load rfl ag24 rfl rfl) ?_
  refine ol_pure rfl rfl rfl (pure_move rfl rfl) ?_
  first | refine ol_pure rfl rfl rfl (pure_indexn rfl Try.underlying24 sz48 rfl rfl (by omega) (fun _ => rfl)) ?_ | refine ol_pure rfl rfl rfl (pure_indexm rfl Try.underlying24 sz48 rfl rfl (by omega) (fun _ => rfl)) ?_
  refine ol_pure rfl rfl rfl (pure_field rfl fd48_1 rfl) ?_
  refine ol_pure rfl rfl rfl (pure_load rfl ag3 rfl rfl) ?_
  refine ol_pure rfl rfl rfl (pure_assign rfl rfl) ?_
  refine ol_nil ?_
  refine seq_pick 9 [(3, _)] [] rfl ⟨rfl, trivial⟩ trivial ?_
  refine code_ret ?_
  refine end_ret rfl ?_   -- end 1
  rfl
theorem fn65 : Fn1 Try.prog 65 Try.f65.ntmps 3 (Try.f65.body.getD .skip) := ⟨Try.f65, Try.func65, rfl, rfl, rfl, by kernel_rfl⟩
set_option maxRecDepth 100000 in
theorem lev2_call {a : List Letter} {x : Int} (hx : 0 ≤ x ∧ x < a.length) : CallF Try.prog 65 [int x, .pc [letters a] 0] (.p (int (lev a 2 x))) := by
  refine callF_of_code fn65 (Nat.le_of_ble_eq_true rfl) fun w0 M0 hM0 => ?_
  refine code_seq ?_
  refine code_ops _ rfl ?_
  refine ol_pure rfl rfl rfl (pure_assign rfl rfl) ?_
  refine ol_nil ?_
  refine seq_pick 9 [(0, _), (1, _)] [] rfl ⟨rfl, rfl, trivial⟩ trivial ?_
  refine code_seq ?_
  refine code_ops _ rfl ?_
  refine ol_pure rfl rfl rfl (pure_load rfl ag24 rfl rfl) ?_
  refine ol_pure rfl rfl rfl (pure_move rfl rfl) ?_
  first | refine ol_pure rfl rfl rfl (pure_indexn rfl Try.underlying24 sz48 rfl rfl (by omega) (fun _ => rfl)) ?_ | refine ol_pure rfl rfl rfl (pure_indexm rfl Try.underlying24 sz48 rfl rfl (by omega) (fun _ => rfl)) ?_
  refine ol_pure rfl rfl rfl (pure_field rfl fd48_2 rfl) ?_
  refine ol_pure rfl rfl rfl (pure_load rfl ag3 rfl rfl) ?_
  refine ol_pure rfl rfl rfl (pure_assign rfl rfl) ?_
  refine ol_nil ?_
  refine seq_pick 9 [(3, _)] [] rfl ⟨rfl, trivial⟩ trivial ?_
  refine code_ret ?_
  refine end_ret rfl ?_   -- end 1
  rfl
theorem fn66 : Fn1 Try.prog 66 Try.f66.ntmps 3 (Try.f66.body.getD .skip) := ⟨Try.f66, Try.func66, rfl, rfl, rfl, by kernel_rfl⟩
set_option maxRecDepth 100000 in
theorem lev3_call {a : List Letter} {x : Int} (hx : 0 ≤ x ∧ x < a.length) : CallF Try.prog 66 [int x, .pc [letters a] 0] (.p (int (lev a 3 x))) := by
  refine callF_of_code fn66 (Nat.le_of_ble_eq_true rfl) fun w0 M0 hM0 => ?_
  refine code_seq ?_
  refine code_ops _ rfl ?_
  refine ol_pure rfl rfl rfl (pure_assign rfl rfl) ?_
  refine ol_nil ?_
  refine seq_pick 9 [(0, _), (1, _)] [] rfl ⟨rfl, rfl, trivial⟩ trivial ?_
  refine code_seq ?_
  refine code_ops _ rfl ?_
  refine ol_pure rfl rfl rfl (pure_load rfl ag24 rfl rfl) ?_
  refine ol_pure rfl rfl rfl (pure_move rfl rfl) ?_
  first | refine ol_pure rfl rfl rfl (pure_indexn rfl Try.underlying24 sz48 rfl rfl (by omega) (fun _ => rfl)) ?_ | refine ol_pure rfl rfl rfl (pure_indexm rfl Try.underlying24 sz48 rfl rfl (by omega) (fun _ => rfl)) ?_
  refine ol_pure rfl rfl rfl (pure_field rfl fd48_3 rfl) ?_
  refine ol_pure rfl rfl rfl (pure_load rfl ag3 rfl rfl) ?_
  refine ol_pure rfl rfl rfl (pure_assign rfl rfl) ?_
  refine ol_nil ?_
  refine seq_pick 9 [(3, _)] [] rfl ⟨rfl, trivial⟩ trivial ?_
  refine code_ret ?_
  refine end_ret rfl ?_   -- end 1
  rfl
theorem fn67 : Fn1 Try.prog 67 Try.f67.ntmps 2 (Try.f67.body.getD .skip) := ⟨Try.f67, Try.func67, rfl, rfl, rfl, by kernel_rfl⟩
set_option maxRecDepth 100000 in
theorem lev4_call {a : List Letter} {x : Int} : CallF Try.prog 67 [int x] (.p (int (lev a 4 x))) := by
  refine callF_of_code fn67 (Nat.le_of_ble_eq_true rfl) fun w0 M0 hM0 => ?_
  refine code_seq ?_
  refine code_ops _ rfl ?_
  refine ol_pure rfl rfl rfl (pure_assign rfl rfl) ?_
  refine ol_nil ?_
  refine seq_pick 4 [(0, _)] [] rfl ⟨rfl, trivial⟩ trivial ?_
  refine code_seq ?_
  refine code_ops _ rfl ?_
  refine ol_pure rfl rfl rfl (pure_move rfl rfl) ?_
  refine ol_pure rfl rfl rfl (pure_assign rfl rfl) ?_
  refine ol_nil ?_
  refine seq_pick 4 [(2, _)] [] rfl ⟨rfl, trivial⟩ trivial ?_
  refine code_ret ?_
  refine end_ret rfl ?_   -- end 1
  rfl
theorem levF_call {a : List Letter} {x : Int} {i : Nat} (hi : i < 4) (hx : 0 ≤ x ∧ x < a.length) : CallF Try.prog (64 + i) ([int x] ++ capsF a i) (.p (int (lev a (i + 1) x))) := by
  match i, hi with
  | 0, _ => exact lev1_call hx
  | 1, _ => exact lev2_call hx
  | 2, _ => exact lev3_call hx
  | 3, _ => exact lev4_call
theorem fn57 : Fn1 Try.prog 57 Try.f57.ntmps 2 (Try.f57.body.getD .skip) := ⟨Try.f57, Try.func57, rfl, rfl, rfl, by kernel_rfl⟩
set_option maxRecDepth 100000 in
theorem levels_call {a : List Letter} : CallN Try.prog 57 [letters a] (.p (.sl ((List.range 4).map (levF a)))) := by
  refine callN_of_code fn57 (Nat.le_of_ble_eq_true rfl) fun w0 M0 hM0 => ?_
  refine code_seq ?_
  refine code_ops _ rfl ?_
  refine ol_pure rfl rfl rfl (pure_box rfl rfl rfl hM0) ?_
  refine ol_pure rfl rfl rfl (pure_assign rfl rfl) ?_
  refine ol_nil ?_
  refine seq_pick 7 [(1, _)] [] rfl ⟨rfl, trivial⟩ trivial ?_
  refine code_seq ?_
  refine code_ops _ rfl ?_
  refine ol_pure rfl rfl rfl (pure_func rfl rfl) ?_
  refine ol_pure rfl rfl rfl (pure_func rfl rfl) ?_
  refine ol_pure rfl rfl rfl (pure_func rfl rfl) ?_
  refine ol_pure rfl rfl rfl (pure_lit rfl Try.underlying75 el77 rfl rfl rfl rfl hM0) ?_
  refine ol_pure rfl rfl rfl (pure_assign rfl rfl) ?_
  refine ol_nil ?_
  refine seq_pick 7 [(2, _)] [] rfl ⟨rfl, trivial⟩ trivial ?_
  refine code_ret ?_
  refine end_ret rfl ?_   -- end 1
  rfl
theorem fn44 : Fn1 Try.prog 44 Try.f44.ntmps 6 (Try.f44.body.getD .skip) := ⟨Try.f44, Try.func44, rfl, rfl, rfl, by kernel_rfl⟩
set_option maxRecDepth 100000 in
set_option maxHeartbeats 2000000 in
theorem key_call {a : List Letter} {w : List Int} {k : Int} (hval : validA a = true) (hw : w.length ≤ 1099511627776) (hk : 1 ≤ k ∧ k ≤ 4) :
    CallF Try.prog 44 [letters a, ints w, int k] (.fresh 3 ((keyP a w k.toNat).map int)) := by
  have hva := valid_len hval
  refine callF_of_code fn44 (Nat.le_of_ble_eq_true rfl) fun w0 M0 hM0 => ?_
  refine code_seq ?_
  refine code_ops _ rfl ?_
  refine ol_step rfl (step_nil rfl rfl rfl rfl rfl 3 hM0) ?_
  refine ol_nil ?_
  refine seq_pick 51 [(0, _), (1, _), (2, _)] [] rfl ⟨rfl, rfl, rfl, trivial⟩ trivial ?_
  refine code_seq ?_
  refine code_ops _ rfl ?_
  refine ol_step rfl (step_nil rfl rfl rfl rfl rfl 3 hM0) ?_
  refine ol_nil ?_
  refine seq_pick 51 [(0, _), (1, _), (2, _), (7, _)] [(7, _)] rfl ⟨rfl, rfl, rfl, rfl, trivial⟩ ⟨rfl, trivial⟩ ?_
  refine code_seq ?_
  refine code_seq ?_
  refine code_ops _ rfl ?_
  refine ol_pure rfl rfl rfl (pure_move rfl rfl) ?_
  refine ol_pure rfl rfl rfl (pure_callN rfl rfl rfl rfl (levels_call) hM0) ?_
  refine ol_pure rfl rfl rfl (pure_move rfl rfl) ?_
  refine ol_pure rfl rfl rfl (pure_slice_h rfl Try.underlying75 sz77 rfl rfl (by simp only [List.length_map, List.length_range]; omega) (map_len fun _ => rfl)) ?_
  refine ol_pure rfl rfl rfl (pure_len rfl Try.underlying75 rfl) ?_
  refine ol_pure rfl rfl rfl (pure_move rfl rfl) ?_
  refine ol_nil ?_
  refine seq_pick 51 [(0, _), (1, _), (7, _), (15, _), (16, _), (17, _)] [(7, _)] rfl ⟨rfl, rfl, rfl, rfl, rfl, rfl, trivial⟩ ⟨rfl, trivial⟩ ?_
  refine code_block ?_
  have hkl := fun i => keyP_len a w i
  have hll := fun k => level_length_le a w k
  refine code_loopM (fun zm zs => ∃ i : Nat, zm = k.toNat - i ∧ (i ≤ k.toNat) ∧ zs = ⟨51, [(0, .v .mx (letters a)), (1, .v .mx (ints w)), (7, .own 7), (15, .v .mx (.sl ((List.range k.toNat).map (levF a)))), (16, .v .pl (int k.toNat)), (17, .v .pl (int i))], [(7, .arr 3 ((keyP a w i).map int))]⟩) (loop_init (n := 51) (l := [(0, _), (1, _), (7, _), (15, _), (16, _), (17, _)]) (o' := [(7, _)]) rfl ⟨rfl, rfl, rfl, rfl, rfl, rfl, trivial⟩ ⟨rfl, trivial⟩ ?_) ?_
  · refine ⟨_, 0, rfl, Nat.zero_le _, ?_⟩
    rw [take_levs (by omega)]
    simp only [List.length_map, List.length_range]; rfl
  · rintro zm zs ⟨i, rfl, hL1_0, rfl⟩
    have hi4 : i * (w.length + 1) ≤ 4 * (w.length + 1) := Nat.mul_le_mul_right _ (by omega)
    refine code_seq ?_
    refine code_ops _ rfl ?_
    refine ol_pure rfl rfl rfl (pure_lss rfl rfl rfl) ?_
    refine ol_nil ?_
    refine seq_pick 51 [(0, _), (1, _), (7, _), (15, _), (16, _), (17, _), (18, _)] [(7, _)] rfl ⟨rfl, rfl, rfl, rfl, rfl, rfl, rfl, trivial⟩ ⟨rfl, trivial⟩ ?_
    refine code_seq ?_
    refine code_cond rfl (fun h1 => ?_) (fun h1 => ?_)
    · try simp only [decide_eq_true_eq, decide_eq_false_iff_not, Bool.not_eq_true', Bool.not_eq_false', Bool.and_eq_true, Bool.or_eq_true, Bool.and_eq_false_iff, List.length_map, Int.toNat_natCast] at h1
      refine code_skip ?_
      refine seq_pick 51 [(0, _), (1, _), (7, _), (15, _), (16, _), (17, _)] [(7, _)] rfl ⟨rfl, rfl, rfl, rfl, rfl, rfl, trivial⟩ ⟨rfl, trivial⟩ ?_
      refine code_seq ?_
      refine code_block ?_
      refine code_seq ?_
      refine code_ops _ rfl ?_
      refine ol_pure rfl rfl rfl (pure_move rfl rfl) ?_
      first | refine ol_pure rfl rfl rfl (pure_indexn rfl Try.underlying75 sz77 rfl rfl (by simp only [List.length_range]; omega) (fun _ => rfl)) ?_ | refine ol_pure rfl rfl rfl (pure_indexm rfl Try.underlying75 sz77 rfl rfl (by simp only [List.length_range]; omega) (fun _ => rfl)) ?_
      refine ol_pure rfl rfl rfl (pure_load rfl ag77 rfl rfl) ?_
      refine ol_pure rfl rfl rfl (pure_assign rfl rfl) ?_
      refine ol_pure rfl rfl rfl (pure_assign rfl rfl) ?_
      refine ol_nil ?_
      refine seq_pick 51 [(0, _), (1, _), (7, _), (8, _), (9, _), (15, _), (16, _), (17, _)] [(7, _)] rfl ⟨rfl, rfl, rfl, rfl, rfl, rfl, rfl, rfl, trivial⟩ ⟨rfl, trivial⟩ ?_
      refine code_cut (fun zs => zs = ⟨51, [(0, .v .mx (letters a)), (1, .v .mx (ints w)), (7, .own 7), (9, .v .mx (levF a i)), (15, .v .mx (.sl ((List.range k.toNat).map (levF a)))), (16, .v .pl (int k.toNat)), (17, .v .pl (int i))], [(7, .arr 3 ((keyP a w i ++ sep i).map int))]⟩) ?_ ?_
      · skip
        refine code_seq ?_
        refine code_ops _ rfl ?_
        refine ol_pure rfl rfl rfl (pure_move rfl rfl) ?_
        refine ol_pure rfl rfl rfl (pure_gtr rfl rfl rfl) ?_
        refine ol_nil ?_
        refine seq_pick 51 [(0, _), (1, _), (7, _), (9, _), (15, _), (16, _), (17, _), (23, _)] [(7, _)] rfl ⟨rfl, rfl, rfl, rfl, rfl, rfl, rfl, rfl, trivial⟩ ⟨rfl, trivial⟩ ?_
        refine code_cond rfl (fun h2 => ?_) (fun h2 => ?_)
        · try simp only [decide_eq_true_eq, decide_eq_false_iff_not, Bool.not_eq_true', Bool.not_eq_false', Bool.and_eq_true, Bool.or_eq_true, Bool.and_eq_false_iff, List.length_map, Int.toNat_natCast] at h2
          refine code_ops _ rfl ?_
          refine ol_pure rfl rfl rfl (pure_move rfl rfl) ?_
          refine ol_pure rfl rfl rfl (pure_lit rfl Try.underlying22 el3 rfl rfl rfl rfl hM0) ?_
          refine ol_step rfl (step_append rfl rfl rfl rfl Try.underlying22 el3 rfl rfl hM0 (src_pl rfl (one_len (by rfl))) (by simp only [List.length_map, List.length_append, List.length_cons, List.length_nil]; have := hkl i; omega) (by simp only [List.length_map, List.length_append, List.length_cons, List.length_nil]; have := hkl i; omega)) ?_
          refine ol_pure rfl rfl rfl (pure_assign rfl rfl) ?_
          refine ol_nil ?_
          refine cut_next (n := 51) (l := [(0, _), (1, _), (7, _), (9, _), (15, _), (16, _), (17, _)]) (o' := [(7, _)]) rfl ⟨rfl, rfl, rfl, rfl, rfl, rfl, rfl, trivial⟩ ⟨rfl, trivial⟩ ?_   -- cut 7 end 1
          rw [show sep i = [0] by unfold sep; rw [if_neg (by omega)], List.map_append, range_getD (by omega)]; rfl
        · try simp only [decide_eq_true_eq, decide_eq_false_iff_not, Bool.not_eq_true', Bool.not_eq_false', Bool.and_eq_true, Bool.or_eq_true, Bool.and_eq_false_iff, List.length_map, Int.toNat_natCast] at h2
          refine code_skip ?_
          refine cut_next (n := 51) (l := [(0, _), (1, _), (7, _), (9, _), (15, _), (16, _), (17, _)]) (o' := [(7, _)]) rfl ⟨rfl, rfl, rfl, rfl, rfl, rfl, rfl, trivial⟩ ⟨rfl, trivial⟩ ?_   -- cut 7 end 2
          rw [show sep i = [] by unfold sep; rw [if_pos (by omega)], List.append_nil, range_getD (by omega)]
      · rintro zs ⟨rfl⟩
        refine code_seq ?_
        refine code_ops _ rfl ?_
        refine ol_pure rfl rfl rfl (pure_move rfl rfl) ?_
        refine ol_pure rfl rfl rfl (pure_lenm rfl Try.underlying22 rfl) ?_
        refine ol_pure rfl rfl rfl (pure_move rfl rfl) ?_
        refine ol_nil ?_
        refine seq_pick 51 [(0, _), (1, _), (7, _), (9, _), (15, _), (16, _), (17, _), (27, _), (28, _), (29, _)] [(7, _)] rfl ⟨rfl, rfl, rfl, rfl, rfl, rfl, rfl, rfl, rfl, rfl, trivial⟩ ⟨rfl, trivial⟩ ?_
        refine code_block ?_
        refine code_loopM (fun zm zs => ∃ j : Nat, zm = w.length - j ∧ (j ≤ w.length) ∧ zs = ⟨51, [(0, .v .mx (letters a)), (1, .v .mx (ints w)), (7, .own 7), (9, .v .mx (levF a i)), (15, .v .mx (.sl ((List.range k.toNat).map (levF a)))), (16, .v .pl (int k.toNat)), (17, .v .pl (int i)), (27, .v .mx (ints w)), (28, .v .pl (int w.length)), (29, .v .pl (int j))], [(7, .arr 3 ((keyP a w i ++ sep i ++ (level a (w.take j) (i + 1)).map (· + 1)).map int))]⟩) (loop_init (n := 51) (l := [(0, _), (1, _), (7, _), (9, _), (15, _), (16, _), (17, _), (27, _), (28, _), (29, _)]) (o' := [(7, _)]) rfl ⟨rfl, rfl, rfl, rfl, rfl, rfl, rfl, rfl, rfl, rfl, trivial⟩ ⟨rfl, trivial⟩ ?_) ?_
        · refine ⟨_, 0, rfl, Nat.zero_le _, ?_⟩
          rw [List.take_zero, level_nil, List.map_nil, List.append_nil]; rfl
        · rintro zm zs ⟨j, rfl, hL2_0, rfl⟩
          have hlj : (level a (w.take j) (i + 1)).length ≤ w.length := Nat.le_trans (level_length_le _ _ _) (by rw [List.length_take]; omega)
          refine code_seq ?_
          refine code_ops _ rfl ?_
          refine ol_pure rfl rfl rfl (pure_lss rfl rfl rfl) ?_
          refine ol_nil ?_
          refine seq_pick 51 [(0, _), (1, _), (7, _), (9, _), (15, _), (16, _), (17, _), (27, _), (28, _), (29, _), (30, _)] [(7, _)] rfl ⟨rfl, rfl, rfl, rfl, rfl, rfl, rfl, rfl, rfl, rfl, rfl, trivial⟩ ⟨rfl, trivial⟩ ?_
          refine code_seq ?_
          refine code_cond rfl (fun h3 => ?_) (fun h3 => ?_)
          · try simp only [decide_eq_true_eq, decide_eq_false_iff_not, Bool.not_eq_true', Bool.not_eq_false', Bool.and_eq_true, Bool.or_eq_true, Bool.and_eq_false_iff, List.length_map, Int.toNat_natCast] at h3
            refine code_skip ?_
            refine seq_pick 51 [(0, _), (1, _), (7, _), (9, _), (15, _), (16, _), (17, _), (27, _), (28, _), (29, _)] [(7, _)] rfl ⟨rfl, rfl, rfl, rfl, rfl, rfl, rfl, rfl, rfl, rfl, trivial⟩ ⟨rfl, trivial⟩ ?_
            refine code_seq ?_
            refine code_block ?_
            refine code_seq ?_
            refine code_ops _ rfl ?_
            first | refine ol_pure rfl rfl rfl (pure_indexn rfl Try.underlying22 sz3 rfl rfl (by omega) (fun _ => rfl)) ?_ | refine ol_pure rfl rfl rfl (pure_indexm rfl Try.underlying22 sz3 rfl rfl (by omega) (fun _ => rfl)) ?_
            refine ol_pure rfl rfl rfl (pure_load rfl ag3 rfl rfl) ?_
            refine ol_pure rfl rfl rfl (pure_assign rfl rfl) ?_
            refine ol_nil ?_
            refine seq_pick 51 [(0, _), (1, _), (7, _), (9, _), (11, _), (15, _), (16, _), (17, _), (27, _), (28, _), (29, _)] [(7, _)] rfl ⟨rfl, rfl, rfl, rfl, rfl, rfl, rfl, rfl, rfl, rfl, rfl, trivial⟩ ⟨rfl, trivial⟩ ?_
            refine code_seq ?_
            refine code_ops _ rfl ?_
            refine ol_pure rfl rfl rfl (pure_move rfl rfl) ?_
            refine ol_pure rfl rfl rfl (pure_geq rfl rfl rfl) ?_
            refine ol_pure rfl rfl rfl (pure_move rfl rfl) ?_
            refine ol_guard rfl (fun h4 => ?_) (fun h4 => ?_)
            · have h4' := h4; try simp only [decide_eq_true_eq, decide_eq_false_iff_not, Bool.not_eq_true', Bool.not_eq_false', Bool.and_eq_true, Bool.or_eq_true, Bool.and_eq_false_iff, List.length_map, Int.toNat_natCast] at h4'
              refine ol_pure_g rfl rfl h4 rfl rfl (pure_move rfl rfl) ?_
              refine ol_pure_g rfl rfl h4 rfl rfl (pure_move rfl rfl) ?_
              refine ol_pure_g rfl rfl h4 rfl rfl (pure_lenm rfl Try.underlying24 rfl) ?_
              refine ol_pure_g rfl rfl h4 rfl rfl (pure_lss rfl rfl rfl) ?_
              refine ol_pure rfl rfl rfl (pure_pick_t rfl rfl h4 rfl) ?_
              refine ol_nil ?_
              refine seq_pick 51 [(0, _), (1, _), (7, _), (9, _), (11, _), (15, _), (16, _), (17, _), (27, _), (28, _), (29, _), (40, _)] [(7, _)] rfl ⟨rfl, rfl, rfl, rfl, rfl, rfl, rfl, rfl, rfl, rfl, rfl, rfl, trivial⟩ ⟨rfl, trivial⟩ ?_
              refine code_cond rfl (fun h5 => ?_) (fun h5 => ?_)
              · try simp only [decide_eq_true_eq, decide_eq_false_iff_not, Bool.not_eq_true', Bool.not_eq_false', Bool.and_eq_true, Bool.or_eq_true, Bool.and_eq_false_iff, List.length_map, Int.toNat_natCast] at h5
                refine code_ops _ rfl ?_
                refine ol_pure rfl rfl rfl (pure_move rfl rfl) ?_
                refine ol_pure rfl rfl rfl (pure_move rfl rfl) ?_
                refine ol_pure rfl rfl rfl (pure_move rfl rfl) ?_
                refine ol_pure rfl rfl rfl (pure_call rfl rfl rfl (levF_call (by omega) (by omega)) hM0) ?_
                refine ol_pure rfl rfl rfl (pure_addi rfl rfl rfl (by have := lev_bd hval (isL_true (a := a) (x := w.getD j default) (by omega)) (i + 1); omega)) ?_
                refine ol_pure rfl rfl rfl (pure_lit rfl Try.underlying22 el3 rfl rfl rfl rfl hM0) ?_
                refine ol_step rfl (step_append rfl rfl rfl rfl Try.underlying22 el3 rfl rfl hM0 (src_pl rfl (one_len (by rfl))) (by simp only [List.length_map, List.length_append, List.length_cons, List.length_nil]; have := hkl i; have := hll (i + 1); have := sep_len i; omega) (by simp only [List.length_map, List.length_append, List.length_cons, List.length_nil]; have := hkl i; have := hll (i + 1); have := sep_len i; omega)) ?_
                refine ol_pure rfl rfl rfl (pure_assign rfl rfl) ?_
                refine ol_nil ?_
                refine blockQ_normal ?_
                refine seq_pick 51 [(0, _), (1, _), (7, _), (9, _), (15, _), (16, _), (17, _), (27, _), (28, _), (29, _)] [(7, _)] rfl ⟨rfl, rfl, rfl, rfl, rfl, rfl, rfl, rfl, rfl, rfl, trivial⟩ ⟨rfl, trivial⟩ ?_
                refine code_ops _ rfl ?_
                refine ol_pure rfl rfl rfl (pure_addi rfl rfl rfl (by omega)) ?_
                refine ol_pure rfl rfl rfl (pure_move rfl rfl) ?_
                refine ol_nil ?_
                refine loop_next (n := 51) (l := [(0, _), (1, _), (7, _), (9, _), (15, _), (16, _), (17, _), (27, _), (28, _), (29, _)]) (o' := [(7, _)]) rfl ⟨rfl, rfl, rfl, rfl, rfl, rfl, rfl, rfl, rfl, rfl, trivial⟩ ⟨rfl, trivial⟩ ?_   -- loop 2 end 1
                exact ⟨_, ⟨j + 1, rfl, by omega, by rw [take_succ (by omega), level_snoc _ _ _ _ (isL_true (by omega)) (by omega)]; simp only [List.map_append, List.append_assoc]; rfl⟩, by omega⟩
              · try simp only [decide_eq_true_eq, decide_eq_false_iff_not, Bool.not_eq_true', Bool.not_eq_false', Bool.and_eq_true, Bool.or_eq_true, Bool.and_eq_false_iff, List.length_map, Int.toNat_natCast] at h5
                refine code_skip ?_
                refine blockQ_normal ?_
                refine seq_pick 51 [(0, _), (1, _), (7, _), (9, _), (15, _), (16, _), (17, _), (27, _), (28, _), (29, _)] [(7, _)] rfl ⟨rfl, rfl, rfl, rfl, rfl, rfl, rfl, rfl, rfl, rfl, trivial⟩ ⟨rfl, trivial⟩ ?_
                refine code_ops _ rfl ?_
                refine ol_pure rfl rfl rfl (pure_addi rfl rfl rfl (by omega)) ?_
                refine ol_pure rfl rfl rfl (pure_move rfl rfl) ?_
                refine ol_nil ?_
                refine loop_next (n := 51) (l := [(0, _), (1, _), (7, _), (9, _), (15, _), (16, _), (17, _), (27, _), (28, _), (29, _)]) (o' := [(7, _)]) rfl ⟨rfl, rfl, rfl, rfl, rfl, rfl, rfl, rfl, rfl, rfl, trivial⟩ ⟨rfl, trivial⟩ ?_   -- loop 2 end 2
                exact ⟨_, ⟨j + 1, rfl, by omega, by rw [take_succ (by omega), level_snoc_not _ _ _ _ (isL_false (by omega))]; rfl⟩, by omega⟩
            · have h4' := h4; try simp only [decide_eq_true_eq, decide_eq_false_iff_not, Bool.not_eq_true', Bool.not_eq_false', Bool.and_eq_true, Bool.or_eq_true, Bool.and_eq_false_iff, List.length_map, Int.toNat_natCast] at h4'
              refine ol_skip_g rfl rfl h4 rfl rfl ?_
              refine ol_skip_g rfl rfl h4 rfl rfl ?_
              refine ol_skip_g rfl rfl h4 rfl rfl ?_
              refine ol_skip_g rfl rfl h4 rfl rfl ?_
              refine ol_pure rfl rfl rfl (pure_pick_f rfl rfl h4 rfl) ?_
              refine ol_nil ?_
              refine seq_pick 51 [(0, _), (1, _), (7, _), (9, _), (11, _), (15, _), (16, _), (17, _), (27, _), (28, _), (29, _), (40, _)] [(7, _)] rfl ⟨rfl, rfl, rfl, rfl, rfl, rfl, rfl, rfl, rfl, rfl, rfl, rfl, trivial⟩ ⟨rfl, trivial⟩ ?_
              refine code_cond_f rfl ?_
              refine code_skip ?_
              refine blockQ_normal ?_
              refine seq_pick 51 [(0, _), (1, _), (7, _), (9, _), (15, _), (16, _), (17, _), (27, _), (28, _), (29, _)] [(7, _)] rfl ⟨rfl, rfl, rfl, rfl, rfl, rfl, rfl, rfl, rfl, rfl, trivial⟩ ⟨rfl, trivial⟩ ?_
              refine code_ops _ rfl ?_
              refine ol_pure rfl rfl rfl (pure_addi rfl rfl rfl (by omega)) ?_
              refine ol_pure rfl rfl rfl (pure_move rfl rfl) ?_
              refine ol_nil ?_
              refine loop_next (n := 51) (l := [(0, _), (1, _), (7, _), (9, _), (15, _), (16, _), (17, _), (27, _), (28, _), (29, _)]) (o' := [(7, _)]) rfl ⟨rfl, rfl, rfl, rfl, rfl, rfl, rfl, rfl, rfl, rfl, trivial⟩ ⟨rfl, trivial⟩ ?_   -- loop 2 end 3
              exact ⟨_, ⟨j + 1, rfl, by omega, by rw [take_succ (by omega), level_snoc_not _ _ _ _ (isL_false (by omega))]; rfl⟩, by omega⟩
          · try simp only [decide_eq_true_eq, decide_eq_false_iff_not, Bool.not_eq_true', Bool.not_eq_false', Bool.and_eq_true, Bool.or_eq_true, Bool.and_eq_false_iff, List.length_map, Int.toNat_natCast] at h3
            refine code_exit ?_
            refine seqQ_exit ?_
            refine loopM_exit ?_
            refine blockQ_same ?_
            refine blockQ_normal ?_
            refine seq_pick 51 [(0, _), (1, _), (7, _), (15, _), (16, _), (17, _)] [(7, _)] rfl ⟨rfl, rfl, rfl, rfl, rfl, rfl, trivial⟩ ⟨rfl, trivial⟩ ?_
            refine code_ops _ rfl ?_
            refine ol_pure rfl rfl rfl (pure_addi rfl rfl rfl (by omega)) ?_
            refine ol_pure rfl rfl rfl (pure_move rfl rfl) ?_
            refine ol_nil ?_
            refine loop_next (n := 51) (l := [(0, _), (1, _), (7, _), (15, _), (16, _), (17, _)]) (o' := [(7, _)]) rfl ⟨rfl, rfl, rfl, rfl, rfl, rfl, trivial⟩ ⟨rfl, trivial⟩ ?_   -- loop 1 end 1
            exact ⟨_, ⟨i + 1, rfl, by omega, by rw [List.take_of_length_le (by omega)]; rfl⟩, by omega⟩
    · try simp only [decide_eq_true_eq, decide_eq_false_iff_not, Bool.not_eq_true', Bool.not_eq_false', Bool.and_eq_true, Bool.or_eq_true, Bool.and_eq_false_iff, List.length_map, Int.toNat_natCast] at h1
      refine code_exit ?_
      refine seqQ_exit ?_
      refine loopM_exit ?_
      refine blockQ_same ?_
      refine seq_pick 51 [(7, _)] [(7, _)] rfl ⟨rfl, trivial⟩ ⟨rfl, trivial⟩ ?_
      refine code_seq ?_
      refine code_ops _ rfl ?_
      refine ol_pure rfl rfl rfl (pure_move rfl rfl) ?_
      refine ol_pure rfl rfl rfl (pure_assign rfl rfl) ?_
      refine ol_nil ?_
      refine seq_pick 51 [(6, _)] [(7, _)] rfl ⟨rfl, trivial⟩ ⟨rfl, trivial⟩ ?_
      refine code_ret ?_
      refine end_ret rfl ?_   -- end 1
      rw [show i = k.toNat by omega]
end Go.Proofs.Ytcimmcjnkphagaa
