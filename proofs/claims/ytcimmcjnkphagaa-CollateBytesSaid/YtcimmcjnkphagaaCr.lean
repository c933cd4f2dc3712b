/-
  Contract: the examples of the section hold.
-/
import Derived.Test.YtcimmcjnkphagaaCq
import Derived.Test.YtcimmcjnkphagaaAm19
import Derived.Test.YtcimmcjnkphagaaCa
import Derived.Test.YtcimmcjnkphagaaPn
namespace Go.Proofs.Ytcimmcjnkphagaa
open Go.Am Go.Wb
set_option linter.unusedVariables false
set_option linter.unusedSimpArgs false
theorem liv_short : shortL livL := by unfold shortL; decide
theorem liv_shortT : shortL livT := by unfold shortL; decide
theorem liv_f1 : CallF Try.prog 30 [letters livA, intss livL, ints [0, 1], int 1] (.p (.tup [int 1, int 4])) := by
  have h := cfind_call (a := livA) (l := livL) (w := [0, 1]) (k := 1) liv_ok.len liv_ok.txt (by decide) liv_short (by decide)
  rw [show (if validA livA = true ∧ (1 : Int) ≤ 1 ∧ (1 : Int) ≤ 4 then lessK livA [0, 1] (1 : Int).toNat livL else 0) = 1 by kernel_rfl, show (if validA livA = true ∧ (1 : Int) ≤ 1 ∧ (1 : Int) ≤ 4 then lessK livA [0, 1] (1 : Int).toNat livL + sameK livA [0, 1] (1 : Int).toNat livL else 0) = 4 by kernel_rfl] at h
  exact h
theorem liv_f2 : CallF Try.prog 30 [letters livA, intss livL, ints [0, 1], int 2] (.p (.tup [int 1, int 3])) := by
  have h := cfind_call (a := livA) (l := livL) (w := [0, 1]) (k := 2) liv_ok.len liv_ok.txt (by decide) liv_short (by decide)
  rw [show (if validA livA = true ∧ (1 : Int) ≤ 2 ∧ (2 : Int) ≤ 4 then lessK livA [0, 1] (2 : Int).toNat livL else 0) = 1 by kernel_rfl, show (if validA livA = true ∧ (1 : Int) ≤ 2 ∧ (2 : Int) ≤ 4 then lessK livA [0, 1] (2 : Int).toNat livL + sameK livA [0, 1] (2 : Int).toNat livL else 0) = 3 by kernel_rfl] at h
  exact h
theorem liv_f4 : CallF Try.prog 30 [letters livA, intss livL, ints [0, 1], int 4] (.p (.tup [int 1, int 2])) := by
  have h := cfind_call (a := livA) (l := livL) (w := [0, 1]) (k := 4) liv_ok.len liv_ok.txt (by decide) liv_short (by decide)
  rw [show (if validA livA = true ∧ (1 : Int) ≤ 4 ∧ (4 : Int) ≤ 4 then lessK livA [0, 1] (4 : Int).toNat livL else 0) = 1 by kernel_rfl, show (if validA livA = true ∧ (1 : Int) ≤ 4 ∧ (4 : Int) ≤ 4 then lessK livA [0, 1] (4 : Int).toNat livL + sameK livA [0, 1] (4 : Int).toNat livL else 0) = 2 by kernel_rfl] at h
  exact h
theorem liv_key : CallF Try.prog 18 [letters livA, ints [3, 1]] (.p (ints [1, 2, 0, 1, 1, 0, 2, 1, 0, 4, 2])) := by
  have h := ckey_call (a := livA) (w := [3, 1]) liv_ok.len liv_ok.txt (by decide)
  rw [show keyC livA [3, 1] = [1, 2, 0, 1, 1, 0, 2, 1, 0, 4, 2] by kernel_rfl] at h
  exact h
theorem liv_s1 : CallF Try.prog 25 [letters livA, ints [3, 1], ints [2, 1], int 1] (.p (bool true)) := by
  have h := csame_call (a := livA) (v := [3, 1]) (w := [2, 1]) (k := 1) liv_ok.len liv_ok.txt (by decide) (by decide)
  rw [show ((decide ((1 : Int) ≤ 1) && (decide ((1 : Int) ≤ 4) && validA livA)) && decide (keyP livA [3, 1] (1 : Int).toNat = keyP livA [2, 1] (1 : Int).toNat)) = true by kernel_rfl] at h
  exact h
theorem liv_s2 : CallF Try.prog 25 [letters livA, ints [0, 1], ints [3, 1], int 2] (.p (bool true)) := by
  have h := csame_call (a := livA) (v := [0, 1]) (w := [3, 1]) (k := 2) liv_ok.len liv_ok.txt (by decide) (by decide)
  rw [show ((decide ((1 : Int) ≤ 2) && (decide ((2 : Int) ≤ 4) && validA livA)) && decide (keyP livA [0, 1] (2 : Int).toNat = keyP livA [3, 1] (2 : Int).toNat)) = true by kernel_rfl] at h
  exact h
theorem liv_s3 : CallF Try.prog 25 [letters livA, ints [0, 1], ints [3, 1], int 3] (.p (bool false)) := by
  have h := csame_call (a := livA) (v := [0, 1]) (w := [3, 1]) (k := 3) liv_ok.len liv_ok.txt (by decide) (by decide)
  rw [show ((decide ((1 : Int) ≤ 3) && (decide ((3 : Int) ≤ 4) && validA livA)) && decide (keyP livA [0, 1] (3 : Int).toNat = keyP livA [3, 1] (3 : Int).toNat)) = false by kernel_rfl] at h
  exact h
theorem liv_sort : CallF Try.prog 28 [letters livA, intss livT] (.p (ints [4, 3, 2, 1, 0])) := by
  have h := csort_call (a := livA) (l := livT) liv_ok.len liv_ok.txt (by decide) liv_shortT
  rw [show (if validA livA = true then sortN livA livT livT.length else []) = [4, 3, 2, 1, 0] by kernel_rfl] at h
  exact callF_plain h
theorem liv_c0 : CallF Try.prog 21 [letters livA, ints [2, 1]] (.p (int 0)) := by
  have h := csection_call (a := livA) (w := [2, 1]) liv_ok.len liv_ok.txt (by decide)
  rw [show (if validA livA = true then sectP livA [2, 1] else -1) = 0 by kernel_rfl] at h
  exact h
theorem liv_c1 : CallF Try.prog 21 [letters livA, ints []] (.p (int (-1))) := by
  have h := csection_call (a := livA) (w := []) liv_ok.len liv_ok.txt (by decide)
  rw [show (if validA livA = true then sectP livA [] else -1) = -1 by kernel_rfl] at h
  exact h
theorem liv_cmp : CallF Try.prog 23 [letters livA, ints [3, 1], ints [2, 1]] (.p (int (-1))) := by
  have h := ccompare_call (a := livA) (v := [3, 1]) (w := [2, 1]) liv_ok.len liv_ok.txt (by decide) (by decide)
  rw [show order (keyC livA [3, 1]) (keyC livA [2, 1]) = -1 by kernel_rfl] at h
  exact h
theorem fn20 : Fn1 Try.prog 20 Try.f20.ntmps 0 (Try.f20.body.getD .skip) := ⟨Try.f20, Try.func20, rfl, rfl, rfl, by kernel_rfl⟩
set_option maxRecDepth 100000 in
set_option maxHeartbeats 4000000 in
theorem lives_call : CallF Try.prog 20 [] (.p (bool true)) := by
  refine callF_of_code fn20 (Nat.le_of_ble_eq_true rfl) fun w0 M0 hM0 => ?_
  refine code_seq ?_
  refine code_ops _ rfl ?_
  refine ol_pure rfl rfl rfl (pure_assign rfl rfl) ?_
  refine ol_nil ?_
  refine seq_pick 153 [] [] rfl trivial trivial ?_
  refine code_seq ?_
  refine code_ops _ rfl ?_
  refine ol_pure rfl rfl rfl (pure_build rfl pl48 ze48 rfl rfl rfl) ?_
  refine ol_pure rfl rfl rfl (pure_build rfl pl48 ze48 rfl rfl rfl) ?_
  refine ol_pure rfl rfl rfl (pure_build rfl pl48 ze48 rfl rfl rfl) ?_
  refine ol_pure rfl rfl rfl (pure_build rfl pl48 ze48 rfl rfl rfl) ?_
  refine ol_pure rfl rfl rfl (pure_lit rfl Try.underlying24 el48 rfl rfl rfl rfl hM0) ?_
  refine ol_pure rfl rfl rfl (pure_assign rfl rfl) ?_
  refine ol_nil ?_
  refine seq_pick 153 [(1, _)] [] rfl ⟨rfl, trivial⟩ trivial ?_
  refine code_seq ?_
  refine code_ops _ rfl ?_
  refine ol_pure rfl rfl rfl (pure_lit rfl Try.underlying22 el3 rfl rfl rfl rfl hM0) ?_
  refine ol_pure rfl rfl rfl (pure_lit rfl Try.underlying22 el3 rfl rfl rfl rfl hM0) ?_
  refine ol_pure rfl rfl rfl (pure_lit rfl Try.underlying22 el3 rfl rfl rfl rfl hM0) ?_
  refine ol_pure rfl rfl rfl (pure_lit rfl Try.underlying22 el3 rfl rfl rfl rfl hM0) ?_
  refine ol_pure rfl rfl rfl (pure_lit rfl Try.underlying22 el3 rfl rfl rfl rfl hM0) ?_
  refine ol_pure rfl rfl rfl (pure_lit rfl Try.underlying23 el22 rfl rfl rfl rfl hM0) ?_
  refine ol_pure rfl rfl rfl (pure_assign rfl rfl) ?_
  refine ol_nil ?_
  refine seq_pick 153 [(1, _), (2, _)] [] rfl ⟨rfl, rfl, trivial⟩ trivial ?_
  refine code_seq ?_
  refine code_ops _ rfl ?_
  refine ol_pure rfl rfl rfl (pure_lit rfl Try.underlying22 el3 rfl rfl rfl rfl hM0) ?_
  refine ol_pure rfl rfl rfl (pure_lit rfl Try.underlying22 el3 rfl rfl rfl rfl hM0) ?_
  refine ol_pure rfl rfl rfl (pure_lit rfl Try.underlying22 el3 rfl rfl rfl rfl hM0) ?_
  refine ol_pure rfl rfl rfl (pure_lit rfl Try.underlying22 el3 rfl rfl rfl rfl hM0) ?_
  refine ol_pure rfl rfl rfl (pure_lit rfl Try.underlying22 el3 rfl rfl rfl rfl hM0) ?_
  refine ol_pure rfl rfl rfl (pure_lit rfl Try.underlying23 el22 rfl rfl rfl rfl hM0) ?_
  refine ol_pure rfl rfl rfl (pure_assign rfl rfl) ?_
  refine ol_nil ?_
  refine seq_pick 153 [(1, _), (2, _), (3, _)] [] rfl ⟨rfl, rfl, rfl, trivial⟩ trivial ?_
  refine code_seq ?_
  refine code_ops _ rfl ?_
  refine ol_pure rfl rfl rfl (pure_move rfl rfl) ?_
  refine ol_pure rfl rfl rfl (pure_move rfl rfl) ?_
  refine ol_pure rfl rfl rfl (pure_move rfl rfl) ?_
  refine ol_pure rfl rfl rfl (pure_index rfl Try.underlying23 sz22 rfl rfl (by decide) rfl rfl) ?_
  refine ol_pure rfl rfl rfl (pure_load rfl ag22 rfl rfl) ?_
  refine ol_pure rfl rfl rfl (pure_call rfl rfl rfl (liv_f1) hM0) ?_
  refine ol_pure rfl rfl rfl (pure_move rfl rfl) ?_
  refine ol_pick 153 [(1, _), (2, _), (3, _), (30, _)] [] rfl ⟨rfl, rfl, rfl, rfl, trivial⟩ trivial ?_
  refine ol_pure rfl rfl rfl (pure_extract rfl rfl rfl) ?_
  refine ol_pure rfl rfl rfl (pure_extract rfl rfl rfl) ?_
  refine ol_pure rfl rfl rfl (pure_assign rfl rfl) ?_
  refine ol_pure rfl rfl rfl (pure_assign rfl rfl) ?_
  refine ol_nil ?_
  refine seq_pick 153 [(1, _), (2, _), (3, _), (4, _), (5, _)] [] rfl ⟨rfl, rfl, rfl, rfl, rfl, trivial⟩ trivial ?_
  refine code_seq ?_
  refine code_ops _ rfl ?_
  refine ol_pure rfl rfl rfl (pure_move rfl rfl) ?_
  refine ol_pure rfl rfl rfl (pure_move rfl rfl) ?_
  refine ol_pure rfl rfl rfl (pure_move rfl rfl) ?_
  refine ol_pure rfl rfl rfl (pure_index rfl Try.underlying23 sz22 rfl rfl (by decide) rfl rfl) ?_
  refine ol_pure rfl rfl rfl (pure_load rfl ag22 rfl rfl) ?_
  refine ol_pure rfl rfl rfl (pure_call rfl rfl rfl (liv_f2) hM0) ?_
  refine ol_pure rfl rfl rfl (pure_move rfl rfl) ?_
  refine ol_pick 153 [(1, _), (2, _), (3, _), (4, _), (5, _), (39, _)] [] rfl ⟨rfl, rfl, rfl, rfl, rfl, rfl, trivial⟩ trivial ?_
  refine ol_pure rfl rfl rfl (pure_extract rfl rfl rfl) ?_
  refine ol_pure rfl rfl rfl (pure_extract rfl rfl rfl) ?_
  refine ol_pure rfl rfl rfl (pure_assign rfl rfl) ?_
  refine ol_pure rfl rfl rfl (pure_assign rfl rfl) ?_
  refine ol_nil ?_
  refine seq_pick 153 [(1, _), (2, _), (3, _), (4, _), (5, _), (6, _), (7, _)] [] rfl ⟨rfl, rfl, rfl, rfl, rfl, rfl, rfl, trivial⟩ trivial ?_
  refine code_seq ?_
  refine code_ops _ rfl ?_
  refine ol_pure rfl rfl rfl (pure_move rfl rfl) ?_
  refine ol_pure rfl rfl rfl (pure_move rfl rfl) ?_
  refine ol_pure rfl rfl rfl (pure_move rfl rfl) ?_
  refine ol_pure rfl rfl rfl (pure_index rfl Try.underlying23 sz22 rfl rfl (by decide) rfl rfl) ?_
  refine ol_pure rfl rfl rfl (pure_load rfl ag22 rfl rfl) ?_
  refine ol_pure rfl rfl rfl (pure_call rfl rfl rfl (liv_f4) hM0) ?_
  refine ol_pure rfl rfl rfl (pure_move rfl rfl) ?_
  refine ol_pick 153 [(1, _), (2, _), (3, _), (4, _), (5, _), (6, _), (7, _), (48, _)] [] rfl ⟨rfl, rfl, rfl, rfl, rfl, rfl, rfl, rfl, trivial⟩ trivial ?_
  refine ol_pure rfl rfl rfl (pure_extract rfl rfl rfl) ?_
  refine ol_pure rfl rfl rfl (pure_extract rfl rfl rfl) ?_
  refine ol_pure rfl rfl rfl (pure_assign rfl rfl) ?_
  refine ol_pure rfl rfl rfl (pure_assign rfl rfl) ?_
  refine ol_nil ?_
  refine seq_pick 153 [(1, _), (2, _), (3, _), (4, _), (5, _), (6, _), (7, _), (8, _), (9, _)] [] rfl ⟨rfl, rfl, rfl, rfl, rfl, rfl, rfl, rfl, rfl, trivial⟩ trivial ?_
  refine code_seq ?_
  refine code_ops _ rfl ?_
  refine ol_pure rfl rfl rfl (pure_move rfl rfl) ?_
  refine ol_pure rfl rfl rfl (pure_move rfl rfl) ?_
  refine ol_pure rfl rfl rfl (pure_index rfl Try.underlying23 sz22 rfl rfl (by decide) rfl rfl) ?_
  refine ol_pure rfl rfl rfl (pure_load rfl ag22 rfl rfl) ?_
  refine ol_pure rfl rfl rfl (pure_call rfl rfl rfl (liv_key) hM0) ?_
  refine ol_pure rfl rfl rfl (pure_lit rfl Try.underlying22 el3 rfl rfl rfl rfl hM0) ?_
  refine ol_pure rfl rfl rfl (pure_callb (b' := true) rfl rfl rfl (same_call (a := [1, 2, 0, 1, 1, 0, 2, 1, 0, 4, 2]) (b := [1, 2, 0, 1, 1, 0, 2, 1, 0, 4, 2]) (by decide)) hM0 (rfl)) ?_
  refine ol_pure rfl rfl rfl (pure_assign rfl rfl) ?_
  refine ol_nil ?_
  refine seq_pick 153 [(1, _), (2, _), (3, _), (4, _), (5, _), (6, _), (7, _), (8, _), (9, _), (10, _)] [] rfl ⟨rfl, rfl, rfl, rfl, rfl, rfl, rfl, rfl, rfl, rfl, trivial⟩ trivial ?_
  refine code_seq ?_
  refine code_draw mixed (by kernel_rfl) _ rfl ?_
  refine dl_pure rfl rfl rfl (pure_move rfl rfl) ?_
  refine dl_pure rfl rfl rfl (pure_move rfl rfl) ?_
  refine dl_pure rfl rfl rfl (pure_index rfl Try.underlying23 sz22 rfl rfl (by decide) rfl rfl) ?_
  refine dl_pure rfl rfl rfl (pure_load rfl ag22 rfl rfl) ?_
  refine dl_pure rfl rfl rfl (pure_move rfl rfl) ?_
  refine dl_pure rfl rfl rfl (pure_index rfl Try.underlying23 sz22 rfl rfl (by decide) rfl rfl) ?_
  refine dl_pure rfl rfl rfl (pure_load rfl ag22 rfl rfl) ?_
  refine dl_pick 153 [(1, _), (2, _), (3, _), (4, _), (5, _), (6, _), (7, _), (8, _), (9, _), (10, _), (64, _), (67, _), (70, _)] [] rfl rfl ⟨rfl, rfl, rfl, rfl, rfl, rfl, rfl, rfl, rfl, rfl, rfl, rfl, rfl, trivial⟩ ?_
  refine dl_pure rfl rfl rfl (pure_call rfl rfl rfl (liv_s1) hM0) ?_
  refine dl_pure rfl rfl rfl (pure_move rfl rfl) ?_
  refine dl_pure_g rfl rfl rfl rfl rfl (pure_move rfl rfl) ?_
  refine dl_pure_g rfl rfl rfl rfl rfl (pure_move rfl rfl) ?_
  refine dl_pure_g rfl rfl rfl rfl rfl (pure_index rfl Try.underlying23 sz22 rfl rfl (by decide) rfl rfl) ?_
  refine dl_pure_g rfl rfl rfl rfl rfl (pure_load rfl ag22 rfl rfl) ?_
  refine dl_pure_g rfl rfl rfl rfl rfl (pure_move rfl rfl) ?_
  refine dl_pick 153 [(1, _), (2, _), (3, _), (4, _), (5, _), (6, _), (7, _), (8, _), (9, _), (10, _), (72, _), (73, _), (76, _), (77, _)] [] rfl rfl ⟨rfl, rfl, rfl, rfl, rfl, rfl, rfl, rfl, rfl, rfl, rfl, rfl, rfl, rfl, trivial⟩ ?_
  refine dl_pure_g rfl rfl rfl rfl rfl (pure_index rfl Try.underlying23 sz22 rfl rfl (by decide) rfl rfl) ?_
  refine dl_pure_g rfl rfl rfl rfl rfl (pure_load rfl ag22 rfl rfl) ?_
  refine dl_pure_g rfl rfl rfl rfl rfl (pure_call rfl rfl rfl (liv_s2) hM0) ?_
  refine dl_pure rfl rfl rfl (pure_pick_t rfl rfl rfl rfl) ?_
  refine dl_pure rfl rfl rfl (pure_move rfl rfl) ?_
  refine dl_pure_g rfl rfl rfl rfl rfl (pure_move rfl rfl) ?_
  refine dl_pure_g rfl rfl rfl rfl rfl (pure_move rfl rfl) ?_
  refine dl_pick 153 [(1, _), (2, _), (3, _), (4, _), (5, _), (6, _), (7, _), (8, _), (9, _), (10, _), (82, _), (83, _), (84, _)] [] rfl rfl ⟨rfl, rfl, rfl, rfl, rfl, rfl, rfl, rfl, rfl, rfl, rfl, rfl, rfl, trivial⟩ ?_
  refine dl_pure_g rfl rfl rfl rfl rfl (pure_index rfl Try.underlying23 sz22 rfl rfl (by decide) rfl rfl) ?_
  refine dl_pure_g rfl rfl rfl rfl rfl (pure_load rfl ag22 rfl rfl) ?_
  refine dl_pure_g rfl rfl rfl rfl rfl (pure_move rfl rfl) ?_
  refine dl_pure_g rfl rfl rfl rfl rfl (pure_index rfl Try.underlying23 sz22 rfl rfl (by decide) rfl rfl) ?_
  refine dl_pure_g rfl rfl rfl rfl rfl (pure_load rfl ag22 rfl rfl) ?_
  refine dl_pure_g rfl rfl rfl rfl rfl (pure_call rfl rfl rfl (liv_s3) hM0) ?_
  refine dl_pure_g rfl rfl rfl rfl rfl (pure_not rfl rfl) ?_
  refine dl_pure rfl rfl rfl (pure_pick_t rfl rfl rfl rfl) ?_
  refine dl_pure rfl rfl rfl (pure_assign rfl rfl) ?_
  refine dl_nil ?_
  refine seq_pick 153 [(1, _), (2, _), (3, _), (4, _), (5, _), (6, _), (7, _), (8, _), (9, _), (10, _), (11, _)] [] rfl ⟨rfl, rfl, rfl, rfl, rfl, rfl, rfl, rfl, rfl, rfl, rfl, trivial⟩ trivial ?_
  refine code_seq ?_
  refine code_ops _ rfl ?_
  refine ol_pure rfl rfl rfl (pure_move rfl rfl) ?_
  refine ol_pure rfl rfl rfl (pure_to (b' := true) (pure_eql rfl rfl rfl) (rfl)) ?_
  refine ol_pure rfl rfl rfl (pure_move rfl rfl) ?_
  refine ol_pure_g rfl rfl rfl rfl rfl (pure_move rfl rfl) ?_
  refine ol_pure_g rfl rfl rfl rfl rfl (pure_to (b' := true) (pure_eql rfl rfl rfl) (rfl)) ?_
  refine ol_pure rfl rfl rfl (pure_pick_t rfl rfl rfl rfl) ?_
  refine ol_pure rfl rfl rfl (pure_move rfl rfl) ?_
  refine ol_pick 153 [(1, _), (2, _), (3, _), (6, _), (7, _), (8, _), (9, _), (10, _), (11, _), (99, _)] [] rfl ⟨rfl, rfl, rfl, rfl, rfl, rfl, rfl, rfl, rfl, rfl, trivial⟩ trivial ?_
  refine ol_pure_g rfl rfl rfl rfl rfl (pure_move rfl rfl) ?_
  refine ol_pure_g rfl rfl rfl rfl rfl (pure_to (b' := true) (pure_eql rfl rfl rfl) (rfl)) ?_
  refine ol_pure rfl rfl rfl (pure_pick_t rfl rfl rfl rfl) ?_
  refine ol_pure rfl rfl rfl (pure_move rfl rfl) ?_
  refine ol_pure_g rfl rfl rfl rfl rfl (pure_move rfl rfl) ?_
  refine ol_pure_g rfl rfl rfl rfl rfl (pure_to (b' := true) (pure_eql rfl rfl rfl) (rfl)) ?_
  refine ol_pure rfl rfl rfl (pure_pick_t rfl rfl rfl rfl) ?_
  refine ol_pick 153 [(1, _), (2, _), (3, _), (8, _), (9, _), (10, _), (11, _), (106, _)] [] rfl ⟨rfl, rfl, rfl, rfl, rfl, rfl, rfl, rfl, trivial⟩ trivial ?_
  refine ol_pure rfl rfl rfl (pure_move rfl rfl) ?_
  refine ol_pure_g rfl rfl rfl rfl rfl (pure_move rfl rfl) ?_
  refine ol_pure_g rfl rfl rfl rfl rfl (pure_to (b' := true) (pure_eql rfl rfl rfl) (rfl)) ?_
  refine ol_pure rfl rfl rfl (pure_pick_t rfl rfl rfl rfl) ?_
  refine ol_pure rfl rfl rfl (pure_move rfl rfl) ?_
  refine ol_pure_g rfl rfl rfl rfl rfl (pure_move rfl rfl) ?_
  refine ol_pure_g rfl rfl rfl rfl rfl (pure_to (b' := true) (pure_eql rfl rfl rfl) (rfl)) ?_
  refine ol_pure rfl rfl rfl (pure_pick_t rfl rfl rfl rfl) ?_
  refine ol_pure rfl rfl rfl (pure_assign rfl rfl) ?_
  refine ol_nil ?_
  refine seq_pick 153 [(1, _), (2, _), (3, _), (10, _), (11, _), (12, _)] [] rfl ⟨rfl, rfl, rfl, rfl, rfl, rfl, trivial⟩ trivial ?_
  refine code_seq ?_
  refine code_draw mixed (by kernel_rfl) _ rfl ?_
  refine dl_pure rfl rfl rfl (pure_move rfl rfl) ?_
  refine dl_pure rfl rfl rfl (pure_move rfl rfl) ?_
  refine dl_pure_g rfl rfl rfl rfl rfl (pure_move rfl rfl) ?_
  refine dl_pure rfl rfl rfl (pure_pick_t rfl rfl rfl rfl) ?_
  refine dl_pure rfl rfl rfl (pure_move rfl rfl) ?_
  refine dl_pure_g rfl rfl rfl rfl rfl (pure_move rfl rfl) ?_
  refine dl_pure rfl rfl rfl (pure_pick_t rfl rfl rfl rfl) ?_
  refine dl_pick 153 [(1, _), (2, _), (3, _), (121, _)] [] rfl rfl ⟨rfl, rfl, rfl, rfl, trivial⟩ ?_
  refine dl_pure rfl rfl rfl (pure_move rfl rfl) ?_
  refine dl_pure_g rfl rfl rfl rfl rfl (pure_move rfl rfl) ?_
  refine dl_pure_g rfl rfl rfl rfl rfl (pure_move rfl rfl) ?_
  refine dl_pure_g rfl rfl rfl rfl rfl (pure_call rfl rfl rfl (liv_sort) hM0) ?_
  refine dl_pure_g rfl rfl rfl rfl rfl (pure_lit rfl Try.underlying22 el3 rfl rfl rfl rfl hM0) ?_
  refine dl_pure_g rfl rfl rfl rfl rfl (pure_callb (b' := true) rfl rfl rfl (same_call (a := [4, 3, 2, 1, 0]) (b := [4, 3, 2, 1, 0]) (by decide)) hM0 (rfl)) ?_
  refine dl_pure rfl rfl rfl (pure_pick_t rfl rfl rfl rfl) ?_
  refine dl_pick 153 [(1, _), (2, _), (128, _)] [] rfl rfl ⟨rfl, rfl, rfl, trivial⟩ ?_
  refine dl_pure rfl rfl rfl (pure_move rfl rfl) ?_
  refine dl_pure_g rfl rfl rfl rfl rfl (pure_move rfl rfl) ?_
  refine dl_pure_g rfl rfl rfl rfl rfl (pure_move rfl rfl) ?_
  refine dl_pure_g rfl rfl rfl rfl rfl (pure_index rfl Try.underlying23 sz22 rfl rfl (by decide) rfl rfl) ?_
  refine dl_pure_g rfl rfl rfl rfl rfl (pure_load rfl ag22 rfl rfl) ?_
  refine dl_pure_g rfl rfl rfl rfl rfl (pure_call rfl rfl rfl (liv_c0) hM0) ?_
  refine dl_pure_g rfl rfl rfl rfl rfl (pure_to (b' := true) (pure_eql rfl rfl rfl) (rfl)) ?_
  refine dl_pick 153 [(1, _), (2, _), (129, _), (135, _)] [] rfl rfl ⟨rfl, rfl, rfl, rfl, trivial⟩ ?_
  refine dl_pure rfl rfl rfl (pure_pick_t rfl rfl rfl rfl) ?_
  refine dl_pure rfl rfl rfl (pure_move rfl rfl) ?_
  refine dl_pure_g rfl rfl rfl rfl rfl (pure_move rfl rfl) ?_
  refine dl_pure_g rfl rfl rfl rfl rfl (pure_call rfl rfl rfl (liv_c1) hM0) ?_
  refine dl_pure_g rfl rfl rfl rfl rfl (pure_to (b' := true) (pure_eql rfl rfl rfl) (rfl)) ?_
  refine dl_pure rfl rfl rfl (pure_pick_t rfl rfl rfl rfl) ?_
  refine dl_pure rfl rfl rfl (pure_move rfl rfl) ?_
  refine dl_pick 153 [(1, _), (2, _), (142, _)] [] rfl rfl ⟨rfl, rfl, rfl, trivial⟩ ?_
  refine dl_pure_g rfl rfl rfl rfl rfl (pure_move rfl rfl) ?_
  refine dl_pure_g rfl rfl rfl rfl rfl (pure_move rfl rfl) ?_
  refine dl_pure_g rfl rfl rfl rfl rfl (pure_index rfl Try.underlying23 sz22 rfl rfl (by decide) rfl rfl) ?_
  refine dl_pure_g rfl rfl rfl rfl rfl (pure_load rfl ag22 rfl rfl) ?_
  refine dl_pure_g rfl rfl rfl rfl rfl (pure_move rfl rfl) ?_
  refine dl_pure_g rfl rfl rfl rfl rfl (pure_index rfl Try.underlying23 sz22 rfl rfl (by decide) rfl rfl) ?_
  refine dl_pure_g rfl rfl rfl rfl rfl (pure_load rfl ag22 rfl rfl) ?_
  refine dl_pick 153 [(142, _), (143, _), (146, _), (149, _)] [] rfl rfl ⟨rfl, rfl, rfl, rfl, trivial⟩ ?_
  refine dl_pure_g rfl rfl rfl rfl rfl (pure_call rfl rfl rfl (liv_cmp) hM0) ?_
  refine dl_pure_g rfl rfl rfl rfl rfl (pure_to (b' := true) (pure_eql rfl rfl rfl) (rfl)) ?_
  refine dl_pure rfl rfl rfl (pure_pick_t rfl rfl rfl rfl) ?_
  refine dl_pure rfl rfl rfl (pure_assign rfl rfl) ?_
  refine dl_nil ?_
  refine seq_pick 153 [(0, _)] [] rfl ⟨rfl, trivial⟩ trivial ?_
  refine code_ret ?_
  refine end_ret rfl ?_   -- end 1
  rfl
end Go.Proofs.Ytcimmcjnkphagaa
