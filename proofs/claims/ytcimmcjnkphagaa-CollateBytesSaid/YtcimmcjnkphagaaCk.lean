/-
  Contracts of the program's Key, Compare, Same, Section, Find.
-/
import Derived.Test.YtcimmcjnkphagaaCj
import Derived.Test.YtcimmcjnkphagaaCh
import Derived.Test.YtcimmcjnkphagaaPg
namespace Go.Proofs.Ytcimmcjnkphagaa
open Go.Am Go.Wb
set_option linter.unusedVariables false
set_option linter.unusedSimpArgs false
theorem fn54 : Fn1 Try.prog 54 Try.f54.ntmps 2 (Try.f54.body.getD .skip) := ⟨Try.f54, Try.func54, rfl, rfl, rfl, by kernel_rfl⟩
set_option maxRecDepth 100000 in
theorem valid_call0 {a : List Letter} (hi : CallF Try.prog 56 [letters a] (.p (.sc (.map none)))) : CallF Try.prog 54 [letters a] (.p (bool false)) := by
  refine callF_of_code fn54 (Nat.le_of_ble_eq_true rfl) fun w0 M0 hM0 => ?_
  refine code_seq ?_
  refine code_ops _ rfl ?_
  refine ol_pure rfl rfl rfl (pure_assign rfl rfl) ?_
  refine ol_nil ?_
  refine seq_pick 6 [(0, _)] [] rfl ⟨rfl, trivial⟩ trivial ?_
  refine code_seq ?_
  refine code_ops _ rfl ?_
  refine ol_pure rfl rfl rfl (pure_move rfl rfl) ?_
  refine ol_pure rfl rfl rfl (pure_call rfl rfl rfl (hi) hM0) ?_
  refine ol_pure rfl rfl rfl (by first | exact pure_neq_mnil rfl Try.underlying70 rfl rfl | exact pure_neq_mnil0 rfl Try.underlying70 rfl rfl) ?_
  refine ol_pure rfl rfl rfl (pure_assign rfl rfl) ?_
  refine ol_nil ?_
  refine seq_pick 6 [(2, _)] [] rfl ⟨rfl, trivial⟩ trivial ?_
  refine code_ret ?_
  refine end_ret rfl ?_   -- end 1
  rfl
set_option maxRecDepth 100000 in
theorem valid_call1 {a : List Letter} {ks : List Value} {vs : List AV} (hi : CallF Try.prog 56 [letters a] (.p (.mp ks vs))) : CallF Try.prog 54 [letters a] (.p (bool true)) := by
  refine callF_of_code fn54 (Nat.le_of_ble_eq_true rfl) fun w0 M0 hM0 => ?_
  refine code_seq ?_
  refine code_ops _ rfl ?_
  refine ol_pure rfl rfl rfl (pure_assign rfl rfl) ?_
  refine ol_nil ?_
  refine seq_pick 6 [(0, _)] [] rfl ⟨rfl, trivial⟩ trivial ?_
  refine code_seq ?_
  refine code_ops _ rfl ?_
  refine ol_pure rfl rfl rfl (pure_move rfl rfl) ?_
  refine ol_pure rfl rfl rfl (pure_call rfl rfl rfl (hi) hM0) ?_
  refine ol_pure rfl rfl rfl (by first | exact pure_neq_mnil rfl Try.underlying70 rfl rfl | exact pure_neq_mnil0 rfl Try.underlying70 rfl rfl) ?_
  refine ol_pure rfl rfl rfl (pure_assign rfl rfl) ?_
  refine ol_nil ?_
  refine seq_pick 6 [(2, _)] [] rfl ⟨rfl, trivial⟩ trivial ?_
  refine code_ret ?_
  refine end_ret rfl ?_   -- end 1
  rfl
theorem valid_call {a : List Letter} (ha : a.length ≤ 1099511627776) (ht : ∀ x ∈ a, x.text.length ≤ 1099511627776) : CallF Try.prog 54 [letters a] (.p (bool (validA a))) := by
  have hi := index_call ha ht
  unfold indexAV at hi
  cases hv : validA a
  · rw [hv, if_neg (by simp)] at hi
    exact valid_call0 hi
  · rw [hv, if_pos rfl] at hi
    exact valid_call1 hi
theorem fn43 : Fn1 Try.prog 43 Try.f43.ntmps 4 (Try.f43.body.getD .skip) := ⟨Try.f43, Try.func43, rfl, rfl, rfl, by kernel_rfl⟩
set_option maxRecDepth 100000 in
theorem usable_call {a : List Letter} {k : Int} (ha : a.length ≤ 1099511627776) (ht : ∀ x ∈ a, x.text.length ≤ 1099511627776) : CallF Try.prog 43 [letters a, int k] (.p (bool (decide (1 ≤ k) && (decide (k ≤ 4) && validA a)))) := by
  refine callF_of_code fn43 (Nat.le_of_ble_eq_true rfl) fun w0 M0 hM0 => ?_
  refine code_seq ?_
  refine code_ops _ rfl ?_
  refine ol_pure rfl rfl rfl (pure_assign rfl rfl) ?_
  refine ol_nil ?_
  refine seq_pick 15 [(0, _), (1, _)] [] rfl ⟨rfl, rfl, trivial⟩ trivial ?_
  refine code_seq ?_
  refine code_ops _ rfl ?_
  refine ol_pure rfl rfl rfl (pure_move rfl rfl) ?_
  refine ol_pure rfl rfl rfl (pure_geq rfl rfl rfl) ?_
  refine ol_pure rfl rfl rfl (pure_move rfl rfl) ?_
  refine ol_guard rfl (fun h1 => ?_) (fun h1 => ?_)
  · have h1' := h1; try simp only [decide_eq_true_eq, decide_eq_false_iff_not, Bool.not_eq_true', Bool.not_eq_false', Bool.and_eq_true, Bool.or_eq_true, Bool.and_eq_false_iff, List.length_map, Int.toNat_natCast] at h1'
    refine ol_pure_g rfl rfl h1 rfl rfl (pure_move rfl rfl) ?_
    refine ol_pure_g rfl rfl h1 rfl rfl (pure_leq rfl rfl rfl) ?_
    refine ol_pure rfl rfl rfl (pure_pick_t rfl rfl h1 rfl) ?_
    refine ol_pure rfl rfl rfl (pure_move rfl rfl) ?_
    refine ol_pick 15 [(0, _), (11, _)] [] rfl ⟨rfl, rfl, trivial⟩ trivial ?_
    refine ol_guard rfl (fun h2 => ?_) (fun h2 => ?_)
    · have h2' := h2; try simp only [decide_eq_true_eq, decide_eq_false_iff_not, Bool.not_eq_true', Bool.not_eq_false', Bool.and_eq_true, Bool.or_eq_true, Bool.and_eq_false_iff, List.length_map, Int.toNat_natCast] at h2'
      refine ol_pick 15 [(0, _), (11, _)] [] rfl ⟨rfl, rfl, trivial⟩ trivial ?_
      refine ol_pure_g rfl rfl h2 rfl rfl (pure_move rfl rfl) ?_
      refine ol_pure_g rfl rfl h2 rfl rfl (pure_call rfl rfl rfl (valid_call (by assumption) (by assumption)) hM0) ?_
      refine ol_pure rfl rfl rfl (pure_pick_t rfl rfl h2 rfl) ?_
      refine ol_pure rfl rfl rfl (pure_assign rfl rfl) ?_
      refine ol_nil ?_
      refine seq_pick 15 [(4, _)] [] rfl ⟨rfl, trivial⟩ trivial ?_
      refine code_ret ?_
      refine end_ret rfl ?_   -- end 1
      simp_all <;> (intros; omega)
    · have h2' := h2; try simp only [decide_eq_true_eq, decide_eq_false_iff_not, Bool.not_eq_true', Bool.not_eq_false', Bool.and_eq_true, Bool.or_eq_true, Bool.and_eq_false_iff, List.length_map, Int.toNat_natCast] at h2'
      refine ol_pick 15 [(0, _), (11, _)] [] rfl ⟨rfl, rfl, trivial⟩ trivial ?_
      refine ol_skip_g rfl rfl h2 rfl rfl ?_
      refine ol_skip_g rfl rfl h2 rfl rfl ?_
      refine ol_pure rfl rfl rfl (pure_pick_f rfl rfl h2 rfl) ?_
      refine ol_pure rfl rfl rfl (pure_assign rfl rfl) ?_
      refine ol_nil ?_
      refine seq_pick 15 [(4, _)] [] rfl ⟨rfl, trivial⟩ trivial ?_
      refine code_ret ?_
      refine end_ret rfl ?_   -- end 2
      simp_all <;> (intros; omega)
  · have h1' := h1; try simp only [decide_eq_true_eq, decide_eq_false_iff_not, Bool.not_eq_true', Bool.not_eq_false', Bool.and_eq_true, Bool.or_eq_true, Bool.and_eq_false_iff, List.length_map, Int.toNat_natCast] at h1'
    refine ol_skip_g rfl rfl h1 rfl rfl ?_
    refine ol_skip_g rfl rfl h1 rfl rfl ?_
    refine ol_pure rfl rfl rfl (pure_pick_f rfl rfl h1 rfl) ?_
    refine ol_pure rfl rfl rfl (pure_move rfl rfl) ?_
    refine ol_pick 15 [(0, _), (11, _)] [] rfl ⟨rfl, rfl, trivial⟩ trivial ?_
    refine ol_skip_g rfl rfl rfl rfl rfl ?_
    refine ol_skip_g rfl rfl rfl rfl rfl ?_
    refine ol_pure rfl rfl rfl (pure_pick_f rfl rfl rfl rfl) ?_
    refine ol_pure rfl rfl rfl (pure_assign rfl rfl) ?_
    refine ol_nil ?_
    refine seq_pick 15 [(4, _)] [] rfl ⟨rfl, trivial⟩ trivial ?_
    refine code_ret ?_
    refine end_ret rfl ?_   -- end 3
    simp_all <;> (intros; omega)
theorem fn18 : Fn1 Try.prog 18 Try.f18.ntmps 4 (Try.f18.body.getD .skip) := ⟨Try.f18, Try.func18, rfl, rfl, rfl, by kernel_rfl⟩
set_option maxRecDepth 100000 in
set_option maxHeartbeats 2000000 in
theorem ckey_call {a : List Letter} {w : List Int} (ha : a.length ≤ 1099511627776) (ht : ∀ x ∈ a, x.text.length ≤ 1099511627776) (hw : w.length ≤ 1099511627776) : CallF Try.prog 18 [letters a, ints w] (.p (ints (keyC a w))) := by
  unfold keyC
  refine callF_of_code fn18 (Nat.le_of_ble_eq_true rfl) fun w0 M0 hM0 => ?_
  refine code_seq ?_
  refine code_ops _ rfl ?_
  refine ol_pure rfl rfl rfl (pure_assign rfl rfl) ?_
  refine ol_nil ?_
  refine seq_pick 11 [(0, _), (1, _)] [] rfl ⟨rfl, rfl, trivial⟩ trivial ?_
  refine code_seq ?_
  refine code_seq ?_
  refine code_ops _ rfl ?_
  refine ol_pure rfl rfl rfl (pure_move rfl rfl) ?_
  refine ol_pure rfl rfl rfl (pure_call rfl rfl rfl (usable_call (by assumption) (by assumption)) hM0) ?_
  refine ol_pure rfl rfl rfl (pure_not rfl rfl) ?_
  refine ol_nil ?_
  refine seq_pick 11 [(0, _), (1, _), (7, _)] [] rfl ⟨rfl, rfl, rfl, trivial⟩ trivial ?_
  refine code_cond rfl (fun h1 => ?_) (fun h1 => ?_)
  · try simp only [decide_eq_true_eq, decide_eq_false_iff_not, Bool.not_eq_true', Bool.not_eq_false', Bool.and_eq_true, Bool.or_eq_true, Bool.and_eq_false_iff, List.length_map, Int.toNat_natCast] at h1
    refine code_seq ?_
    refine code_ops _ rfl ?_
    refine ol_pure rfl rfl rfl (pure_assign rfl rfl) ?_
    refine ol_nil ?_
    refine seq_pick 11 [(4, _)] [] rfl ⟨rfl, trivial⟩ trivial ?_
    refine code_ret ?_
    refine seqQ_ret ?_
    refine end_ret rfl ?_   -- end 1
    first | (rw [if_neg (by simp_all)]; rfl) | (rw [if_pos (by simp_all)]; rfl)
  · try simp only [decide_eq_true_eq, decide_eq_false_iff_not, Bool.not_eq_true', Bool.not_eq_false', Bool.and_eq_true, Bool.or_eq_true, Bool.and_eq_false_iff, List.length_map, Int.toNat_natCast] at h1
    refine code_skip ?_
    refine seq_pick 11 [(0, _), (1, _)] [] rfl ⟨rfl, rfl, trivial⟩ trivial ?_
    refine code_seq ?_
    refine code_ops _ rfl ?_
    refine ol_pure rfl rfl rfl (pure_move rfl rfl) ?_
    refine ol_pure rfl rfl rfl (pure_move rfl rfl) ?_
    refine ol_pure rfl rfl rfl (pure_call rfl rfl rfl (key_call (by first | assumption | simp_all) (by first | assumption | exact shortL.get (by assumption) _) (by first | omega | (simp at *; omega))) hM0) ?_
    refine ol_pure rfl rfl rfl (pure_assign rfl rfl) ?_
    refine ol_nil ?_
    refine seq_pick 11 [(4, _)] [] rfl ⟨rfl, trivial⟩ trivial ?_
    refine code_ret ?_
    refine end_ret rfl ?_   -- end 2
    first | (rw [if_neg (by simp_all)]; rfl) | (rw [if_pos (by simp_all)]; rfl)
theorem fn23 : Fn1 Try.prog 23 Try.f23.ntmps 6 (Try.f23.body.getD .skip) := ⟨Try.f23, Try.func23, rfl, rfl, rfl, by kernel_rfl⟩
set_option maxRecDepth 100000 in
set_option maxHeartbeats 2000000 in
theorem ccompare_call {a : List Letter} {v w : List Int} (ha : a.length ≤ 1099511627776) (ht : ∀ x ∈ a, x.text.length ≤ 1099511627776) (hv : v.length ≤ 1099511627776) (hw : w.length ≤ 1099511627776) :
    CallF Try.prog 23 [letters a, ints v, ints w] (.p (int (order (keyC a v) (keyC a w)))) := by
  refine callF_of_code fn23 (Nat.le_of_ble_eq_true rfl) fun w0 M0 hM0 => ?_
  refine code_seq ?_
  refine code_ops _ rfl ?_
  refine ol_pure rfl rfl rfl (pure_assign rfl rfl) ?_
  refine ol_nil ?_
  refine seq_pick 14 [(0, _), (1, _), (2, _)] [] rfl ⟨rfl, rfl, rfl, trivial⟩ trivial ?_
  refine code_seq ?_
  refine code_ops _ rfl ?_
  refine ol_pure rfl rfl rfl (pure_move rfl rfl) ?_
  refine ol_pure rfl rfl rfl (pure_move rfl rfl) ?_
  refine ol_pure rfl rfl rfl (pure_call rfl rfl rfl (ckey_call (by assumption) (by assumption) (by first | assumption | exact shortL.get (by assumption) _)) hM0) ?_
  refine ol_pure rfl rfl rfl (pure_move rfl rfl) ?_
  refine ol_pure rfl rfl rfl (pure_move rfl rfl) ?_
  refine ol_pure rfl rfl rfl (pure_call rfl rfl rfl (ckey_call (by assumption) (by assumption) (by first | assumption | exact shortL.get (by assumption) _)) hM0) ?_
  refine ol_pure rfl rfl rfl (pure_call rfl rfl rfl (scompare_call (keyC_len (by omega)) (keyC_len (by omega))) hM0) ?_
  refine ol_pure rfl rfl rfl (pure_assign rfl rfl) ?_
  refine ol_nil ?_
  refine seq_pick 14 [(6, _)] [] rfl ⟨rfl, trivial⟩ trivial ?_
  refine code_ret ?_
  refine end_ret rfl ?_   -- end 1
  rfl
theorem fn25 : Fn1 Try.prog 25 Try.f25.ntmps 8 (Try.f25.body.getD .skip) := ⟨Try.f25, Try.func25, rfl, rfl, rfl, by kernel_rfl⟩
set_option maxRecDepth 100000 in
set_option maxHeartbeats 2000000 in
theorem csame_call {a : List Letter} {v w : List Int} {k : Int} (ha : a.length ≤ 1099511627776) (ht : ∀ x ∈ a, x.text.length ≤ 1099511627776) (hv : v.length ≤ 1099511627776) (hw : w.length ≤ 1099511627776) :
    CallF Try.prog 25 [letters a, ints v, ints w, int k] (.p (bool ((decide (1 ≤ k) && (decide (k ≤ 4) && validA a)) && decide (keyP a v k.toNat = keyP a w k.toNat)))) := by
  refine callF_of_code fn25 (Nat.le_of_ble_eq_true rfl) fun w0 M0 hM0 => ?_
  refine code_seq ?_
  refine code_ops _ rfl ?_
  refine ol_pure rfl rfl rfl (pure_assign rfl rfl) ?_
  refine ol_nil ?_
  refine seq_pick 23 [(0, _), (1, _), (2, _), (3, _)] [] rfl ⟨rfl, rfl, rfl, rfl, trivial⟩ trivial ?_
  refine code_seq ?_
  refine code_ops _ rfl ?_
  refine ol_pure rfl rfl rfl (pure_move rfl rfl) ?_
  refine ol_pure rfl rfl rfl (pure_move rfl rfl) ?_
  refine ol_pure rfl rfl rfl (pure_call rfl rfl rfl (usable_call (by assumption) (by assumption)) hM0) ?_
  refine ol_pure rfl rfl rfl (pure_move rfl rfl) ?_
  refine ol_guard rfl (fun h1 => ?_) (fun h1 => ?_)
  · have h1' := h1; try simp only [decide_eq_true_eq, decide_eq_false_iff_not, Bool.not_eq_true', Bool.not_eq_false', Bool.and_eq_true, Bool.or_eq_true, Bool.and_eq_false_iff, List.length_map, Int.toNat_natCast] at h1'
    refine ol_pure_g rfl rfl h1 rfl rfl (pure_move rfl rfl) ?_
    refine ol_pure_g rfl rfl h1 rfl rfl (pure_move rfl rfl) ?_
    refine ol_pure_g rfl rfl h1 rfl rfl (pure_move rfl rfl) ?_
    refine ol_pick 23 [(0, _), (2, _), (3, _), (12, _), (13, _), (14, _), (15, _)] [] rfl ⟨rfl, rfl, rfl, rfl, rfl, rfl, rfl, trivial⟩ trivial ?_
    refine ol_pure_g rfl rfl h1 rfl rfl (pure_call rfl rfl rfl (key_call (by first | assumption | simp_all) (by first | assumption | exact shortL.get (by assumption) _) (by first | omega | (simp at *; omega))) hM0) ?_
    refine ol_pure_g rfl rfl h1 rfl rfl (pure_move rfl rfl) ?_
    refine ol_pure_g rfl rfl h1 rfl rfl (pure_move rfl rfl) ?_
    refine ol_pure_g rfl rfl h1 rfl rfl (pure_move rfl rfl) ?_
    refine ol_pure_g rfl rfl h1 rfl rfl (pure_call rfl rfl rfl (key_call (by first | assumption | simp_all) (by first | assumption | exact shortL.get (by assumption) _) (by first | omega | (simp at *; omega))) hM0) ?_
    refine ol_pure_g rfl rfl h1 rfl rfl (pure_call rfl rfl rfl (sequal_call (Nat.le_trans (keyP_len4 _ _ _ (by omega)) (by first | omega | (have := shortL.get hll i; omega))) (Nat.le_trans (keyP_len4 _ _ _ (by omega)) (by first | omega | (have := shortL.get hll i; omega)))) hM0) ?_
    refine ol_pure rfl rfl rfl (pure_pick_t rfl rfl h1 rfl) ?_
    refine ol_pure rfl rfl rfl (pure_assign rfl rfl) ?_
    refine ol_nil ?_
    refine seq_pick 23 [(8, _)] [] rfl ⟨rfl, trivial⟩ trivial ?_
    refine code_ret ?_
    refine end_ret rfl ?_   -- end 1
    simp_all
  · have h1' := h1; try simp only [decide_eq_true_eq, decide_eq_false_iff_not, Bool.not_eq_true', Bool.not_eq_false', Bool.and_eq_true, Bool.or_eq_true, Bool.and_eq_false_iff, List.length_map, Int.toNat_natCast] at h1'
    refine ol_skip_g rfl rfl h1 rfl rfl ?_
    refine ol_skip_g rfl rfl h1 rfl rfl ?_
    refine ol_skip_g rfl rfl h1 rfl rfl ?_
    refine ol_pick 23 [(0, _), (2, _), (3, _), (12, _), (13, _), (14, _), (15, _)] [] rfl ⟨rfl, rfl, rfl, rfl, rfl, rfl, rfl, trivial⟩ trivial ?_
    refine ol_skip_g rfl rfl h1 rfl rfl ?_
    refine ol_skip_g rfl rfl h1 rfl rfl ?_
    refine ol_skip_g rfl rfl h1 rfl rfl ?_
    refine ol_skip_g rfl rfl h1 rfl rfl ?_
    refine ol_skip_g rfl rfl h1 rfl rfl ?_
    refine ol_skip_g rfl rfl h1 rfl rfl ?_
    refine ol_pure rfl rfl rfl (pure_pick_f rfl rfl h1 rfl) ?_
    refine ol_pure rfl rfl rfl (pure_assign rfl rfl) ?_
    refine ol_nil ?_
    refine seq_pick 23 [(8, _)] [] rfl ⟨rfl, trivial⟩ trivial ?_
    refine code_ret ?_
    refine end_ret rfl ?_   -- end 2
    simp_all
theorem fn21 : Fn1 Try.prog 21 Try.f21.ntmps 4 (Try.f21.body.getD .skip) := ⟨Try.f21, Try.func21, rfl, rfl, rfl, by kernel_rfl⟩
set_option maxRecDepth 100000 in
set_option maxHeartbeats 2000000 in
theorem csection_call {a : List Letter} {w : List Int} (ha : a.length ≤ 1099511627776) (ht : ∀ x ∈ a, x.text.length ≤ 1099511627776) (hw : w.length ≤ 1099511627776) :
    CallF Try.prog 21 [letters a, ints w] (.p (int (if validA a = true then sectP a w else -1))) := by
  refine callF_of_code fn21 (Nat.le_of_ble_eq_true rfl) fun w0 M0 hM0 => ?_
  refine code_seq ?_
  refine code_ops _ rfl ?_
  refine ol_pure rfl rfl rfl (pure_assign rfl rfl) ?_
  refine ol_nil ?_
  refine seq_pick 30 [(0, _), (1, _)] [] rfl ⟨rfl, rfl, trivial⟩ trivial ?_
  refine code_seq ?_
  refine code_seq ?_
  refine code_ops _ rfl ?_
  refine ol_pure rfl rfl rfl (pure_move rfl rfl) ?_
  refine ol_pure rfl rfl rfl (pure_call rfl rfl rfl (usable_call (by assumption) (by assumption)) hM0) ?_
  refine ol_pure rfl rfl rfl (pure_not rfl rfl) ?_
  refine ol_nil ?_
  refine seq_pick 30 [(0, _), (1, _), (9, _)] [] rfl ⟨rfl, rfl, rfl, trivial⟩ trivial ?_
  refine code_cond rfl (fun h1 => ?_) (fun h1 => ?_)
  · try simp only [decide_eq_true_eq, decide_eq_false_iff_not, Bool.not_eq_true', Bool.not_eq_false', Bool.and_eq_true, Bool.or_eq_true, Bool.and_eq_false_iff, List.length_map, Int.toNat_natCast] at h1
    refine code_seq ?_
    refine code_ops _ rfl ?_
    refine ol_pure rfl rfl rfl (pure_assign rfl rfl) ?_
    refine ol_nil ?_
    refine seq_pick 30 [(4, _)] [] rfl ⟨rfl, trivial⟩ trivial ?_
    refine code_ret ?_
    refine seqQ_ret ?_
    refine end_ret rfl ?_   -- end 1
    rw [if_neg (by simp_all)]
  · try simp only [decide_eq_true_eq, decide_eq_false_iff_not, Bool.not_eq_true', Bool.not_eq_false', Bool.and_eq_true, Bool.or_eq_true, Bool.and_eq_false_iff, List.length_map, Int.toNat_natCast] at h1
    have hval : validA a = true := by simp_all
    refine code_skip ?_
    refine seq_pick 30 [(0, _), (1, _)] [] rfl ⟨rfl, rfl, trivial⟩ trivial ?_
    refine code_seq ?_
    refine code_seq ?_
    refine code_ops _ rfl ?_
    refine ol_pure rfl rfl rfl (pure_move rfl rfl) ?_
    refine ol_pure rfl rfl rfl (pure_lenm rfl Try.underlying22 rfl) ?_
    refine ol_pure rfl rfl rfl (pure_move rfl rfl) ?_
    refine ol_nil ?_
    refine seq_pick 30 [(0, _), (10, _), (11, _), (12, _)] [] rfl ⟨rfl, rfl, rfl, rfl, trivial⟩ trivial ?_
    refine code_block ?_
    refine code_loopM (fun zm zs => ∃ j : Nat, zm = w.length - j ∧ (j ≤ w.length) ∧ (sectP a w = sectP a (w.drop j)) ∧ zs = ⟨30, [(0, .v .mx (letters a)), (10, .v .mx (ints w)), (11, .v .pl (int w.length)), (12, .v .pl (int j))], []⟩) (loop_init (n := 30) (l := [(0, _), (10, _), (11, _), (12, _)]) (o' := []) rfl ⟨rfl, rfl, rfl, rfl, trivial⟩ trivial ?_) ?_
    · exact ⟨_, 0, rfl, Nat.zero_le _, rfl, rfl⟩
    · rintro zm zs ⟨j, rfl, hL1_0, hL1_1, rfl⟩
      refine code_seq ?_
      refine code_ops _ rfl ?_
      refine ol_pure rfl rfl rfl (pure_lss rfl rfl rfl) ?_
      refine ol_nil ?_
      refine seq_pick 30 [(0, _), (10, _), (11, _), (12, _), (13, _)] [] rfl ⟨rfl, rfl, rfl, rfl, rfl, trivial⟩ trivial ?_
      refine code_seq ?_
      refine code_cond rfl (fun h2 => ?_) (fun h2 => ?_)
      · try simp only [decide_eq_true_eq, decide_eq_false_iff_not, Bool.not_eq_true', Bool.not_eq_false', Bool.and_eq_true, Bool.or_eq_true, Bool.and_eq_false_iff, List.length_map, Int.toNat_natCast] at h2
        refine code_skip ?_
        refine seq_pick 30 [(0, _), (10, _), (11, _), (12, _)] [] rfl ⟨rfl, rfl, rfl, rfl, trivial⟩ trivial ?_
        refine code_seq ?_
        refine code_block ?_
        refine code_seq ?_
        refine code_ops _ rfl ?_
        first | refine ol_pure rfl rfl rfl (pure_indexn rfl Try.underlying22 sz3 rfl rfl (by omega) (fun _ => rfl)) ?_ | refine ol_pure rfl rfl rfl (pure_indexm rfl Try.underlying22 sz3 rfl rfl (by omega) (fun _ => rfl)) ?_
        refine ol_pure rfl rfl rfl (pure_load rfl ag3 rfl rfl) ?_
        refine ol_pure rfl rfl rfl (pure_assign rfl rfl) ?_
        refine ol_nil ?_
        refine seq_pick 30 [(0, _), (6, _), (10, _), (11, _), (12, _)] [] rfl ⟨rfl, rfl, rfl, rfl, rfl, trivial⟩ trivial ?_
        refine code_seq ?_
        refine code_ops _ rfl ?_
        refine ol_pure rfl rfl rfl (pure_move rfl rfl) ?_
        refine ol_pure rfl rfl rfl (pure_geq rfl rfl rfl) ?_
        refine ol_pure rfl rfl rfl (pure_move rfl rfl) ?_
        refine ol_guard rfl (fun h3 => ?_) (fun h3 => ?_)
        · have h3' := h3; try simp only [decide_eq_true_eq, decide_eq_false_iff_not, Bool.not_eq_true', Bool.not_eq_false', Bool.and_eq_true, Bool.or_eq_true, Bool.and_eq_false_iff, List.length_map, Int.toNat_natCast] at h3'
          refine ol_pure_g rfl rfl h3 rfl rfl (pure_move rfl rfl) ?_
          refine ol_pure_g rfl rfl h3 rfl rfl (pure_move rfl rfl) ?_
          refine ol_pure_g rfl rfl h3 rfl rfl (pure_lenm rfl Try.underlying24 rfl) ?_
          refine ol_pure_g rfl rfl h3 rfl rfl (pure_lss rfl rfl rfl) ?_
          refine ol_pure rfl rfl rfl (pure_pick_t rfl rfl h3 rfl) ?_
          refine ol_nil ?_
          refine seq_pick 30 [(0, _), (6, _), (10, _), (11, _), (12, _), (23, _)] [] rfl ⟨rfl, rfl, rfl, rfl, rfl, rfl, trivial⟩ trivial ?_
          refine code_cond rfl (fun h4 => ?_) (fun h4 => ?_)
          · try simp only [decide_eq_true_eq, decide_eq_false_iff_not, Bool.not_eq_true', Bool.not_eq_false', Bool.and_eq_true, Bool.or_eq_true, Bool.and_eq_false_iff, List.length_map, Int.toNat_natCast] at h4
            refine code_seq ?_
            refine code_ops _ rfl ?_
            refine ol_pure rfl rfl rfl (pure_move rfl rfl) ?_
            refine ol_pure rfl rfl rfl (pure_move rfl rfl) ?_
            first | refine ol_pure rfl rfl rfl (pure_indexn rfl Try.underlying24 sz48 rfl rfl (by omega) (fun _ => rfl)) ?_ | refine ol_pure rfl rfl rfl (pure_indexm rfl Try.underlying24 sz48 rfl rfl (by omega) (fun _ => rfl)) ?_
            refine ol_pure rfl rfl rfl (pure_field rfl fd48_1 rfl) ?_
            refine ol_pure rfl rfl rfl (pure_load rfl ag3 rfl rfl) ?_
            refine ol_pure rfl rfl rfl (pure_assign rfl rfl) ?_
            refine ol_nil ?_
            refine seq_pick 30 [(4, _)] [] rfl ⟨rfl, trivial⟩ trivial ?_
            refine code_ret ?_
            refine blockQ_ret ?_
            refine seqQ_ret ?_
            refine loopM_ret ?_
            refine blockQ_ret ?_
            refine seqQ_ret ?_
            refine end_ret rfl ?_   -- end 2
            rw [if_pos hval, hL1_1, sectP_hit (by omega) (isL_true (by omega))]
          · try simp only [decide_eq_true_eq, decide_eq_false_iff_not, Bool.not_eq_true', Bool.not_eq_false', Bool.and_eq_true, Bool.or_eq_true, Bool.and_eq_false_iff, List.length_map, Int.toNat_natCast] at h4
            refine code_skip ?_
            refine blockQ_normal ?_
            refine seq_pick 30 [(0, _), (10, _), (11, _), (12, _)] [] rfl ⟨rfl, rfl, rfl, rfl, trivial⟩ trivial ?_
            refine code_ops _ rfl ?_
            refine ol_pure rfl rfl rfl (pure_addi rfl rfl rfl (by omega)) ?_
            refine ol_pure rfl rfl rfl (pure_move rfl rfl) ?_
            refine ol_nil ?_
            refine loop_next (n := 30) (l := [(0, _), (10, _), (11, _), (12, _)]) (o' := []) rfl ⟨rfl, rfl, rfl, rfl, trivial⟩ trivial ?_   -- loop 1 end 1
            exact ⟨_, ⟨j + 1, rfl, by omega, by rw [hL1_1, sectP_skip (by omega) (isL_false (by omega))], rfl⟩, by omega⟩
        · have h3' := h3; try simp only [decide_eq_true_eq, decide_eq_false_iff_not, Bool.not_eq_true', Bool.not_eq_false', Bool.and_eq_true, Bool.or_eq_true, Bool.and_eq_false_iff, List.length_map, Int.toNat_natCast] at h3'
          refine ol_skip_g rfl rfl h3 rfl rfl ?_
          refine ol_skip_g rfl rfl h3 rfl rfl ?_
          refine ol_skip_g rfl rfl h3 rfl rfl ?_
          refine ol_skip_g rfl rfl h3 rfl rfl ?_
          refine ol_pure rfl rfl rfl (pure_pick_f rfl rfl h3 rfl) ?_
          refine ol_nil ?_
          refine seq_pick 30 [(0, _), (6, _), (10, _), (11, _), (12, _), (23, _)] [] rfl ⟨rfl, rfl, rfl, rfl, rfl, rfl, trivial⟩ trivial ?_
          refine code_cond_f rfl ?_
          refine code_skip ?_
          refine blockQ_normal ?_
          refine seq_pick 30 [(0, _), (10, _), (11, _), (12, _)] [] rfl ⟨rfl, rfl, rfl, rfl, trivial⟩ trivial ?_
          refine code_ops _ rfl ?_
          refine ol_pure rfl rfl rfl (pure_addi rfl rfl rfl (by omega)) ?_
          refine ol_pure rfl rfl rfl (pure_move rfl rfl) ?_
          refine ol_nil ?_
          refine loop_next (n := 30) (l := [(0, _), (10, _), (11, _), (12, _)]) (o' := []) rfl ⟨rfl, rfl, rfl, rfl, trivial⟩ trivial ?_   -- loop 1 end 2
          exact ⟨_, ⟨j + 1, rfl, by omega, by rw [hL1_1, sectP_skip (by omega) (isL_false (by omega))], rfl⟩, by omega⟩
      · try simp only [decide_eq_true_eq, decide_eq_false_iff_not, Bool.not_eq_true', Bool.not_eq_false', Bool.and_eq_true, Bool.or_eq_true, Bool.and_eq_false_iff, List.length_map, Int.toNat_natCast] at h2
        refine code_exit ?_
        refine seqQ_exit ?_
        refine loopM_exit ?_
        refine blockQ_same ?_
        refine seq_pick 30 [] [] rfl trivial trivial ?_
        refine code_seq ?_
        refine code_ops _ rfl ?_
        refine ol_pure rfl rfl rfl (pure_assign rfl rfl) ?_
        refine ol_nil ?_
        refine seq_pick 30 [(4, _)] [] rfl ⟨rfl, trivial⟩ trivial ?_
        refine code_ret ?_
        refine end_ret rfl ?_   -- end 3
        rw [if_pos hval, hL1_1, List.drop_of_length_le (by omega)]; rfl
theorem fn30 : Fn2 Try.prog 30 Try.f30.ntmps 8 9 (Try.f30.body.getD .skip) := ⟨Try.f30, Try.func30, rfl, rfl, rfl, by kernel_rfl⟩
set_option maxRecDepth 100000 in
set_option maxHeartbeats 2000000 in
theorem cfind_call {a : List Letter} {l : List (List Int)} {w : List Int} {k : Int} (ha : a.length ≤ 1099511627776) (ht : ∀ x ∈ a, x.text.length ≤ 1099511627776) (hl : l.length ≤ 1099511627776) (hll : shortL l) (hw : w.length ≤ 1099511627776) :
    CallF Try.prog 30 [letters a, intss l, ints w, int k] (.p (.tup [int (if validA a = true ∧ 1 ≤ k ∧ k ≤ 4 then lessK a w k.toNat l else 0 : Nat), int (if validA a = true ∧ 1 ≤ k ∧ k ≤ 4 then lessK a w k.toNat l + sameK a w k.toNat l else 0 : Nat)])) := by
  refine callF_of_code2 fn30 (Nat.le_of_ble_eq_true rfl) fun w0 M0 hM0 => ?_
  refine code_seq ?_
  refine code_ops _ rfl ?_
  refine ol_pure rfl rfl rfl (pure_assign rfl rfl) ?_
  refine ol_pure rfl rfl rfl (pure_assign rfl rfl) ?_
  refine ol_nil ?_
  refine seq_pick 46 [(0, _), (1, _), (2, _), (3, _)] [] rfl ⟨rfl, rfl, rfl, rfl, trivial⟩ trivial ?_
  refine code_seq ?_
  refine code_seq ?_
  refine code_ops _ rfl ?_
  refine ol_pure rfl rfl rfl (pure_move rfl rfl) ?_
  refine ol_pure rfl rfl rfl (pure_move rfl rfl) ?_
  refine ol_pure rfl rfl rfl (pure_call rfl rfl rfl (usable_call (by assumption) (by assumption)) hM0) ?_
  refine ol_pure rfl rfl rfl (pure_not rfl rfl) ?_
  refine ol_nil ?_
  refine seq_pick 46 [(0, _), (1, _), (2, _), (3, _), (17, _)] [] rfl ⟨rfl, rfl, rfl, rfl, rfl, trivial⟩ trivial ?_
  refine code_cond rfl (fun h1 => ?_) (fun h1 => ?_)
  · try simp only [decide_eq_true_eq, decide_eq_false_iff_not, Bool.not_eq_true', Bool.not_eq_false', Bool.and_eq_true, Bool.or_eq_true, Bool.and_eq_false_iff, List.length_map, Int.toNat_natCast] at h1
    refine code_seq ?_
    refine code_ops _ rfl ?_
    refine ol_pure rfl rfl rfl (pure_assign rfl rfl) ?_
    refine ol_pure rfl rfl rfl (pure_assign rfl rfl) ?_
    refine ol_nil ?_
    refine seq_pick 46 [(8, _), (9, _)] [] rfl ⟨rfl, rfl, trivial⟩ trivial ?_
    refine code_ret ?_
    refine seqQ_ret ?_
    refine end2_ret rfl rfl ?_   -- end 1
    refine ⟨?_, ?_⟩ <;> (rw [if_neg (by rintro ⟨q1, q2, q3⟩; simp_all)]; rfl)
  · try simp only [decide_eq_true_eq, decide_eq_false_iff_not, Bool.not_eq_true', Bool.not_eq_false', Bool.and_eq_true, Bool.or_eq_true, Bool.and_eq_false_iff, List.length_map, Int.toNat_natCast] at h1
    have hval : validA a = true := by simp_all
    have hk4 : 1 ≤ k ∧ k ≤ 4 := by omega
    refine code_skip ?_
    refine seq_pick 46 [(0, _), (1, _), (2, _), (3, _)] [] rfl ⟨rfl, rfl, rfl, rfl, trivial⟩ trivial ?_
    refine code_seq ?_
    refine code_ops _ rfl ?_
    refine ol_pure rfl rfl rfl (pure_assign rfl rfl) ?_
    refine ol_pure rfl rfl rfl (pure_assign rfl rfl) ?_
    refine ol_nil ?_
    refine seq_pick 46 [(0, _), (1, _), (2, _), (3, _), (10, _), (11, _)] [] rfl ⟨rfl, rfl, rfl, rfl, rfl, rfl, trivial⟩ trivial ?_
    refine code_seq ?_
    refine code_seq ?_
    refine code_ops _ rfl ?_
    refine ol_pure rfl rfl rfl (pure_move rfl rfl) ?_
    refine ol_pure rfl rfl rfl (pure_lenm rfl Try.underlying23 rfl) ?_
    refine ol_pure rfl rfl rfl (pure_move rfl rfl) ?_
    refine ol_nil ?_
    refine seq_pick 46 [(0, _), (2, _), (3, _), (10, _), (11, _), (18, _), (19, _), (20, _)] [] rfl ⟨rfl, rfl, rfl, rfl, rfl, rfl, rfl, rfl, trivial⟩ trivial ?_
    refine code_block ?_
    refine code_loopM (fun zm zs => ∃ i : Nat, zm = l.length - i ∧ (i ≤ l.length) ∧ zs = ⟨46, [(0, .v .mx (letters a)), (2, .v .mx (ints w)), (3, .v .mx (int k)), (10, .v .pl (int (lessK a w k.toNat (l.take i)))), (11, .v .pl (int (sameK a w k.toNat (l.take i)))), (18, .v .mx (intss l)), (19, .v .pl (int l.length)), (20, .v .pl (int i))], []⟩) (loop_init (n := 46) (l := [(0, _), (2, _), (3, _), (10, _), (11, _), (18, _), (19, _), (20, _)]) (o' := []) rfl ⟨rfl, rfl, rfl, rfl, rfl, rfl, rfl, rfl, trivial⟩ trivial ?_) ?_
    · exact ⟨_, 0, rfl, Nat.zero_le _, rfl⟩
    · rintro zm zs ⟨i, rfl, hL1_0, rfl⟩
      have hn1 : lessK a w k.toNat (l.take i) ≤ l.length := countP_le_take _ _ _
      have hn2 : sameK a w k.toNat (l.take i) ≤ l.length := countP_le_take _ _ _
      refine code_seq ?_
      refine code_ops _ rfl ?_
      refine ol_pure rfl rfl rfl (pure_lss rfl rfl rfl) ?_
      refine ol_nil ?_
      refine seq_pick 46 [(0, _), (2, _), (3, _), (10, _), (11, _), (18, _), (19, _), (20, _), (21, _)] [] rfl ⟨rfl, rfl, rfl, rfl, rfl, rfl, rfl, rfl, rfl, trivial⟩ trivial ?_
      refine code_seq ?_
      refine code_cond rfl (fun h2 => ?_) (fun h2 => ?_)
      · try simp only [decide_eq_true_eq, decide_eq_false_iff_not, Bool.not_eq_true', Bool.not_eq_false', Bool.and_eq_true, Bool.or_eq_true, Bool.and_eq_false_iff, List.length_map, Int.toNat_natCast] at h2
        refine code_skip ?_
        refine seq_pick 46 [(0, _), (2, _), (3, _), (10, _), (11, _), (18, _), (19, _), (20, _)] [] rfl ⟨rfl, rfl, rfl, rfl, rfl, rfl, rfl, rfl, trivial⟩ trivial ?_
        refine code_seq ?_
        refine code_block ?_
        refine code_seq ?_
        refine code_ops _ rfl ?_
        first | refine ol_pure rfl rfl rfl (pure_indexn rfl Try.underlying23 sz22 rfl rfl (by omega) (fun _ => rfl)) ?_ | refine ol_pure rfl rfl rfl (pure_indexm rfl Try.underlying23 sz22 rfl rfl (by omega) (fun _ => rfl)) ?_
        refine ol_pure rfl rfl rfl (pure_load rfl ag22 rfl rfl) ?_
        refine ol_pure rfl rfl rfl (pure_assign rfl rfl) ?_
        refine ol_nil ?_
        refine seq_pick 46 [(0, _), (2, _), (3, _), (10, _), (11, _), (13, _), (18, _), (19, _), (20, _)] [] rfl ⟨rfl, rfl, rfl, rfl, rfl, rfl, rfl, rfl, rfl, trivial⟩ trivial ?_
        refine code_seq ?_
        refine code_ops _ rfl ?_
        refine ol_pure rfl rfl rfl (pure_move rfl rfl) ?_
        refine ol_pure rfl rfl rfl (pure_move rfl rfl) ?_
        refine ol_pure rfl rfl rfl (pure_move rfl rfl) ?_
        refine ol_pure rfl rfl rfl (pure_call rfl rfl rfl (key_call (by first | assumption | simp_all) (by first | assumption | exact shortL.get (by assumption) _) (by first | omega | (simp at *; omega))) hM0) ?_
        refine ol_pure rfl rfl rfl (pure_move rfl rfl) ?_
        refine ol_pure rfl rfl rfl (pure_move rfl rfl) ?_
        refine ol_pure rfl rfl rfl (pure_move rfl rfl) ?_
        refine ol_pure rfl rfl rfl (pure_call rfl rfl rfl (key_call (by first | assumption | simp_all) (by first | assumption | exact shortL.get (by assumption) _) (by first | omega | (simp at *; omega))) hM0) ?_
        refine ol_pure rfl rfl rfl (pure_call rfl rfl rfl (scompare_call (Nat.le_trans (keyP_len4 _ _ _ (by omega)) (by first | omega | (have := shortL.get hll i; omega))) (Nat.le_trans (keyP_len4 _ _ _ (by omega)) (by first | omega | (have := shortL.get hll i; omega)))) hM0) ?_
        refine ol_nil ?_
        refine seq_pick 46 [(0, _), (2, _), (3, _), (10, _), (11, _), (18, _), (19, _), (20, _), (32, _)] [] rfl ⟨rfl, rfl, rfl, rfl, rfl, rfl, rfl, rfl, rfl, trivial⟩ trivial ?_
        refine code_block ?_
        refine code_seq ?_
        refine code_ops _ rfl ?_
        refine ol_pure rfl rfl rfl (pure_eql rfl rfl rfl) ?_
        refine ol_pure rfl rfl rfl (pure_assign rfl rfl) ?_
        refine ol_nil ?_
        refine seq_pick 46 [(0, _), (2, _), (3, _), (10, _), (11, _), (18, _), (19, _), (20, _), (32, _), (33, _)] [] rfl ⟨rfl, rfl, rfl, rfl, rfl, rfl, rfl, rfl, rfl, rfl, trivial⟩ trivial ?_
        refine code_cond rfl (fun h3 => ?_) (fun h3 => ?_)
        · try simp only [decide_eq_true_eq, decide_eq_false_iff_not, Bool.not_eq_true', Bool.not_eq_false', Bool.and_eq_true, Bool.or_eq_true, Bool.and_eq_false_iff, List.length_map, Int.toNat_natCast] at h3
          refine code_ops _ rfl ?_
          refine ol_pure rfl rfl rfl (pure_move rfl rfl) ?_
          refine ol_pure rfl rfl rfl (pure_addi rfl rfl rfl (by omega)) ?_
          refine ol_pure rfl rfl rfl (pure_assign rfl rfl) ?_
          refine ol_nil ?_
          refine blockQ_normal ?_
          refine blockQ_normal ?_
          refine seq_pick 46 [(0, _), (2, _), (3, _), (10, _), (11, _), (18, _), (19, _), (20, _)] [] rfl ⟨rfl, rfl, rfl, rfl, rfl, rfl, rfl, rfl, trivial⟩ trivial ?_
          refine code_ops _ rfl ?_
          refine ol_pure rfl rfl rfl (pure_addi rfl rfl rfl (by omega)) ?_
          refine ol_pure rfl rfl rfl (pure_move rfl rfl) ?_
          refine ol_nil ?_
          refine loop_next (n := 46) (l := [(0, _), (2, _), (3, _), (10, _), (11, _), (18, _), (19, _), (20, _)]) (o' := []) rfl ⟨rfl, rfl, rfl, rfl, rfl, rfl, rfl, rfl, trivial⟩ trivial ?_   -- loop 1 end 1
          exact ⟨_, ⟨i + 1, rfl, by omega, by rw [lessK_step (by omega), sameK_step (by omega)]; (repeat' split) <;> first | rfl | (exfalso; omega)⟩, by omega⟩
        · try simp only [decide_eq_true_eq, decide_eq_false_iff_not, Bool.not_eq_true', Bool.not_eq_false', Bool.and_eq_true, Bool.or_eq_true, Bool.and_eq_false_iff, List.length_map, Int.toNat_natCast] at h3
          refine code_seq ?_
          refine code_ops _ rfl ?_
          refine ol_pure rfl rfl rfl (pure_eql rfl rfl rfl) ?_
          refine ol_pure rfl rfl rfl (pure_assign rfl rfl) ?_
          refine ol_nil ?_
          refine seq_pick 46 [(0, _), (2, _), (3, _), (10, _), (11, _), (18, _), (19, _), (20, _), (37, _)] [] rfl ⟨rfl, rfl, rfl, rfl, rfl, rfl, rfl, rfl, rfl, trivial⟩ trivial ?_
          refine code_cond rfl (fun h4 => ?_) (fun h4 => ?_)
          · try simp only [decide_eq_true_eq, decide_eq_false_iff_not, Bool.not_eq_true', Bool.not_eq_false', Bool.and_eq_true, Bool.or_eq_true, Bool.and_eq_false_iff, List.length_map, Int.toNat_natCast] at h4
            refine code_ops _ rfl ?_
            refine ol_pure rfl rfl rfl (pure_move rfl rfl) ?_
            refine ol_pure rfl rfl rfl (pure_addi rfl rfl rfl (by omega)) ?_
            refine ol_pure rfl rfl rfl (pure_assign rfl rfl) ?_
            refine ol_nil ?_
            refine blockQ_normal ?_
            refine blockQ_normal ?_
            refine seq_pick 46 [(0, _), (2, _), (3, _), (10, _), (11, _), (18, _), (19, _), (20, _)] [] rfl ⟨rfl, rfl, rfl, rfl, rfl, rfl, rfl, rfl, trivial⟩ trivial ?_
            refine code_ops _ rfl ?_
            refine ol_pure rfl rfl rfl (pure_addi rfl rfl rfl (by omega)) ?_
            refine ol_pure rfl rfl rfl (pure_move rfl rfl) ?_
            refine ol_nil ?_
            refine loop_next (n := 46) (l := [(0, _), (2, _), (3, _), (10, _), (11, _), (18, _), (19, _), (20, _)]) (o' := []) rfl ⟨rfl, rfl, rfl, rfl, rfl, rfl, rfl, rfl, trivial⟩ trivial ?_   -- loop 1 end 2
            exact ⟨_, ⟨i + 1, rfl, by omega, by rw [lessK_step (by omega), sameK_step (by omega)]; (repeat' split) <;> first | rfl | (exfalso; omega)⟩, by omega⟩
          · try simp only [decide_eq_true_eq, decide_eq_false_iff_not, Bool.not_eq_true', Bool.not_eq_false', Bool.and_eq_true, Bool.or_eq_true, Bool.and_eq_false_iff, List.length_map, Int.toNat_natCast] at h4
            refine code_skip ?_
            refine blockQ_normal ?_
            refine blockQ_normal ?_
            refine seq_pick 46 [(0, _), (2, _), (3, _), (10, _), (11, _), (18, _), (19, _), (20, _)] [] rfl ⟨rfl, rfl, rfl, rfl, rfl, rfl, rfl, rfl, trivial⟩ trivial ?_
            refine code_ops _ rfl ?_
            refine ol_pure rfl rfl rfl (pure_addi rfl rfl rfl (by omega)) ?_
            refine ol_pure rfl rfl rfl (pure_move rfl rfl) ?_
            refine ol_nil ?_
            refine loop_next (n := 46) (l := [(0, _), (2, _), (3, _), (10, _), (11, _), (18, _), (19, _), (20, _)]) (o' := []) rfl ⟨rfl, rfl, rfl, rfl, rfl, rfl, rfl, rfl, trivial⟩ trivial ?_   -- loop 1 end 3
            exact ⟨_, ⟨i + 1, rfl, by omega, by rw [lessK_step (by omega), sameK_step (by omega)]; (repeat' split) <;> first | rfl | (exfalso; omega)⟩, by omega⟩
      · try simp only [decide_eq_true_eq, decide_eq_false_iff_not, Bool.not_eq_true', Bool.not_eq_false', Bool.and_eq_true, Bool.or_eq_true, Bool.and_eq_false_iff, List.length_map, Int.toNat_natCast] at h2
        refine code_exit ?_
        refine seqQ_exit ?_
        refine loopM_exit ?_
        refine blockQ_same ?_
        refine seq_pick 46 [(10, _), (11, _)] [] rfl ⟨rfl, rfl, trivial⟩ trivial ?_
        refine code_seq ?_
        refine code_ops _ rfl ?_
        refine ol_pure rfl rfl rfl (pure_move rfl rfl) ?_
        refine ol_pure rfl rfl rfl (pure_move rfl rfl) ?_
        refine ol_pure rfl rfl rfl (pure_move rfl rfl) ?_
        refine ol_pure rfl rfl rfl (pure_addi rfl rfl rfl (by omega)) ?_
        refine ol_pure rfl rfl rfl (pure_assign rfl rfl) ?_
        refine ol_pure rfl rfl rfl (pure_assign rfl rfl) ?_
        refine ol_nil ?_
        refine seq_pick 46 [(8, _), (9, _)] [] rfl ⟨rfl, rfl, trivial⟩ trivial ?_
        refine code_ret ?_
        refine end2_ret rfl rfl ?_   -- end 2
        refine ⟨?_, ?_⟩ <;> (rw [if_pos ⟨hval, hk4.1, hk4.2⟩, List.take_of_length_le (by omega)]; rfl)
end Go.Proofs.Ytcimmcjnkphagaa
