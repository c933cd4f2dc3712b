/-
  Contract: the reference's Valid.
-/
import Derived.Test.YtcimmcjnkphagaaCc
namespace Go.Proofs.Ytcimmcjnkphagaa
open Go.Am Go.Wb
set_option linter.unusedVariables false
set_option linter.unusedSimpArgs false

theorem fn45 : Fn1 Try.prog 45 Try.f45.ntmps 2 (Try.f45.body.getD .skip) := ⟨Try.f45, Try.func45, rfl, rfl, rfl, by kernel_rfl⟩
set_option maxRecDepth 100000 in
set_option maxHeartbeats 4000000 in
theorem rvalid_call {a : List Letter} (ha : a.length ≤ 1099511627776) (ht : ∀ x ∈ a, x.text.length ≤ 1099511627776) : CallF Try.prog 45 [letters a] (.p (bool (validA a))) := by
  have htx : ∀ i : Nat, (a.getD i default).text.length ≤ 1099511627776 := fun i => by
    rw [List.getD_eq_getElem?_getD]
    cases hx : a[i]? with
    | none => exact Nat.zero_le _
    | some x => exact ht x (List.mem_of_getElem? hx)
  refine callF_of_code fn45 (Nat.le_of_ble_eq_true rfl) fun w0 M0 hM0 => ?_
  refine code_seq ?_
  refine code_ops _ rfl ?_
  refine ol_pure rfl rfl rfl (pure_assign rfl rfl) ?_
  refine ol_nil ?_
  refine seq_pick 108 [(0, _)] [] rfl ⟨rfl, trivial⟩ trivial ?_
  refine code_seq ?_
  refine code_seq ?_
  refine code_ops _ rfl ?_
  refine ol_pure rfl rfl rfl (pure_move rfl rfl) ?_
  refine ol_pure rfl rfl rfl (pure_lenm rfl Try.underlying24 rfl) ?_
  refine ol_pure rfl rfl rfl (pure_lss rfl rfl rfl) ?_
  refine ol_pure rfl rfl rfl (pure_move rfl rfl) ?_
  refine ol_guard rfl (fun h1 => ?_) (fun h1 => ?_)
  · have h1' := h1; try simp only [decide_eq_true_eq, decide_eq_false_iff_not, Bool.not_eq_true', Bool.not_eq_false', Bool.and_eq_true, Bool.or_eq_true, Bool.and_eq_false_iff, List.length_map, Int.toNat_natCast] at h1'
    refine ol_skip_g rfl rfl h1 rfl rfl ?_
    refine ol_skip_g rfl rfl h1 rfl rfl ?_
    refine ol_skip_g rfl rfl h1 rfl rfl ?_
    refine ol_pure rfl rfl rfl (pure_pick_t rfl rfl h1 rfl) ?_
    refine ol_nil ?_
    refine seq_pick 108 [(0, _), (13, _)] [] rfl ⟨rfl, rfl, trivial⟩ trivial ?_
    refine code_cond_t rfl ?_
    refine code_seq ?_
    refine code_ops _ rfl ?_
    refine ol_pure rfl rfl rfl (pure_assign rfl rfl) ?_
    refine ol_nil ?_
    refine seq_pick 108 [(2, _)] [] rfl ⟨rfl, trivial⟩ trivial ?_
    refine code_ret ?_
    refine seqQ_ret ?_
    refine end_ret rfl ?_   -- end 1
    first | (rw [validA_size (by omega)]; done) | (rw [validA_bad1 (i := i) (by omega) (hC8_0 (by assumption))]; done) | (rw [validA_bad2 (i := i) (by omega) (hC10_0 (by assumption))]; done) | (rw [validA_bad3 (i := i) (k := k) (by omega) (by omega) (by simp_all)]; done) | (rw [validA_good (n := i) (by omega) (by omega) hL1_1]; done)
  · have h1' := h1; try simp only [decide_eq_true_eq, decide_eq_false_iff_not, Bool.not_eq_true', Bool.not_eq_false', Bool.and_eq_true, Bool.or_eq_true, Bool.and_eq_false_iff, List.length_map, Int.toNat_natCast] at h1'
    refine ol_pure_g rfl rfl h1 rfl rfl (pure_move rfl rfl) ?_
    refine ol_pure_g rfl rfl h1 rfl rfl (pure_lenm rfl Try.underlying24 rfl) ?_
    refine ol_pure_g rfl rfl h1 rfl rfl (pure_gtr rfl rfl rfl) ?_
    refine ol_pure rfl rfl rfl (pure_pick_f rfl rfl h1 rfl) ?_
    refine ol_nil ?_
    refine seq_pick 108 [(0, _), (13, _)] [] rfl ⟨rfl, rfl, trivial⟩ trivial ?_
    refine code_cond rfl (fun h2 => ?_) (fun h2 => ?_)
    · try simp only [decide_eq_true_eq, decide_eq_false_iff_not, Bool.not_eq_true', Bool.not_eq_false', Bool.and_eq_true, Bool.or_eq_true, Bool.and_eq_false_iff, List.length_map, Int.toNat_natCast] at h2
      refine code_seq ?_
      refine code_ops _ rfl ?_
      refine ol_pure rfl rfl rfl (pure_assign rfl rfl) ?_
      refine ol_nil ?_
      refine seq_pick 108 [(2, _)] [] rfl ⟨rfl, trivial⟩ trivial ?_
      refine code_ret ?_
      refine seqQ_ret ?_
      refine end_ret rfl ?_   -- end 2
      first | (rw [validA_size (by omega)]; done) | (rw [validA_bad1 (i := i) (by omega) (hC8_0 (by assumption))]; done) | (rw [validA_bad2 (i := i) (by omega) (hC10_0 (by assumption))]; done) | (rw [validA_bad3 (i := i) (k := k) (by omega) (by omega) (by simp_all)]; done) | (rw [validA_good (n := i) (by omega) (by omega) hL1_1]; done)
    · try simp only [decide_eq_true_eq, decide_eq_false_iff_not, Bool.not_eq_true', Bool.not_eq_false', Bool.and_eq_true, Bool.or_eq_true, Bool.and_eq_false_iff, List.length_map, Int.toNat_natCast] at h2
      refine code_skip ?_
      refine seq_pick 108 [(0, _)] [] rfl ⟨rfl, trivial⟩ trivial ?_
      refine code_seq ?_
      refine code_seq ?_
      refine code_ops _ rfl ?_
      refine ol_pure rfl rfl rfl (pure_assign rfl rfl) ?_
      refine ol_nil ?_
      refine seq_pick 108 [(0, _), (3, _)] [] rfl ⟨rfl, rfl, trivial⟩ trivial ?_
      refine code_block ?_
      refine code_loopM (fun zm zs => ∃ i : Nat, zm = a.length - i ∧ (i ≤ a.length) ∧ (∀ j, j < i → okP a j) ∧ zs = ⟨108, [(0, .v .mx (letters a)), (3, .v .pl (int i))], []⟩) (loop_init (n := 108) (l := [(0, _), (3, _)]) (o' := []) rfl ⟨rfl, rfl, trivial⟩ trivial ?_) ?_
      · exact ⟨_, 0, rfl, Nat.zero_le _, fun j hj => absurd hj (by omega), rfl⟩
      · rintro zm zs ⟨i, rfl, hL1_0, hL1_1, rfl⟩
        refine code_seq ?_
        refine code_seq ?_
        refine code_ops _ rfl ?_
        refine ol_pure rfl rfl rfl (pure_move rfl rfl) ?_
        refine ol_pure rfl rfl rfl (pure_move rfl rfl) ?_
        refine ol_pure rfl rfl rfl (pure_lenm rfl Try.underlying24 rfl) ?_
        refine ol_pure rfl rfl rfl (pure_lss rfl rfl rfl) ?_
        refine ol_nil ?_
        refine seq_pick 108 [(0, _), (3, _), (17, _)] [] rfl ⟨rfl, rfl, rfl, trivial⟩ trivial ?_
        refine code_cond rfl (fun h3 => ?_) (fun h3 => ?_)
        · try simp only [decide_eq_true_eq, decide_eq_false_iff_not, Bool.not_eq_true', Bool.not_eq_false', Bool.and_eq_true, Bool.or_eq_true, Bool.and_eq_false_iff, List.length_map, Int.toNat_natCast] at h3
          refine code_skip ?_
          refine seq_pick 108 [(0, _), (3, _)] [] rfl ⟨rfl, rfl, trivial⟩ trivial ?_
          refine code_seq ?_
          refine code_block ?_
          refine code_seq ?_
          refine code_ops _ rfl ?_
          refine ol_pure rfl rfl rfl (pure_move rfl rfl) ?_
          refine ol_pure rfl rfl rfl (pure_move rfl rfl) ?_
          first | refine ol_pure rfl rfl rfl (pure_indexn rfl Try.underlying24 sz48 rfl rfl (by omega) (fun _ => rfl)) ?_ | refine ol_pure rfl rfl rfl (pure_indexm rfl Try.underlying24 sz48 rfl rfl (by omega) (fun _ => rfl)) ?_
          refine ol_pure rfl rfl rfl (pure_load_agg rfl ag48 sz48 rfl (Nat.le_of_ble_eq_true rfl)) ?_
          refine ol_step rfl (step_alloc rfl rfl rfl rfl ze48 rfl hM0) ?_
          refine ol_step rfl (step_store_box rfl rfl rfl sz48 rfl rfl rfl rfl (by decide) rfl rfl hM0) ?_
          refine ol_nil ?_
          refine seq_pick 108 [(0, _), (3, _), (4, _)] [(4, _)] rfl ⟨rfl, rfl, rfl, trivial⟩ ⟨rfl, trivial⟩ ?_
          refine code_seq ?_
          refine code_cut (fun zs => ∃ z : Bool, (z = true → ¬ ok1P a (a.getD i default)) ∧ (z = false → ok1P a (a.getD i default)) ∧ zs = ⟨108, [(0, .v .mx (letters a)), (3, .v .pl (int i)), (4, .pbox 4 0), (80, .v .pl (bool z))], [(4, .box 48 (lcells .mx (a.getD i default)))]⟩) ?_ ?_
          · skip
            refine code_draw mixed (by kernel_rfl) _ rfl ?_
            refine dl_pure rfl rfl rfl (pure_field_box rfl fd48_0 rfl rfl) ?_
            refine dl_pure rfl rfl rfl (pure_load_box rfl ag9 rfl rfl rfl) ?_
            refine dl_pure rfl rfl rfl (pure_call rfl rfl rfl (plain_call (htx _)) hM0) ?_
            refine dl_pure rfl rfl rfl (pure_not rfl rfl) ?_
            refine dl_pure rfl rfl rfl (pure_move rfl rfl) ?_
            refine dl_guard rfl (fun h4 => ?_) (fun h4 => ?_)
            · have h4' := h4; try simp only [decide_eq_true_eq, decide_eq_false_iff_not, Bool.not_eq_true', Bool.not_eq_false', Bool.and_eq_true, Bool.or_eq_true, Bool.and_eq_false_iff, List.length_map, Int.toNat_natCast] at h4'
              refine dl_skip_g rfl rfl h4 rfl rfl ?_
              refine dl_skip_g rfl rfl h4 rfl rfl ?_
              refine dl_pick 108 [(0, _), (3, _), (4, _), (28, _), (30, _)] [(4, _)] rfl rfl ⟨rfl, rfl, rfl, rfl, rfl, trivial⟩ ?_
              refine dl_skip_g rfl rfl h4 rfl rfl ?_
              refine dl_pure rfl rfl rfl (pure_pick_t rfl rfl h4 rfl) ?_
              refine dl_pure rfl rfl rfl (pure_move rfl rfl) ?_
              refine dl_skip_g rfl rfl rfl rfl rfl ?_
              refine dl_skip_g rfl rfl rfl rfl rfl ?_
              refine dl_skip_g rfl rfl rfl rfl rfl ?_
              refine dl_skip_g rfl rfl rfl rfl rfl ?_
              refine dl_pick 108 [(0, _), (3, _), (4, _), (33, _), (35, _), (37, _)] [(4, _)] rfl rfl ⟨rfl, rfl, rfl, rfl, rfl, rfl, trivial⟩ ?_
              refine dl_skip_g rfl rfl rfl rfl rfl ?_
              refine dl_pure rfl rfl rfl (pure_pick_t rfl rfl rfl rfl) ?_
              refine dl_pure rfl rfl rfl (pure_move rfl rfl) ?_
              refine dl_skip_g rfl rfl rfl rfl rfl ?_
              refine dl_skip_g rfl rfl rfl rfl rfl ?_
              refine dl_skip_g rfl rfl rfl rfl rfl ?_
              refine dl_skip_g rfl rfl rfl rfl rfl ?_
              refine dl_pick 108 [(0, _), (3, _), (4, _), (40, _), (44, _)] [(4, _)] rfl rfl ⟨rfl, rfl, rfl, rfl, rfl, trivial⟩ ?_
              refine dl_skip_g rfl rfl rfl rfl rfl ?_
              refine dl_skip_g rfl rfl rfl rfl rfl ?_
              refine dl_skip_g rfl rfl rfl rfl rfl ?_
              refine dl_skip_g rfl rfl rfl rfl rfl ?_
              refine dl_skip_g rfl rfl rfl rfl rfl ?_
              refine dl_pure rfl rfl rfl (pure_pick_t rfl rfl rfl rfl) ?_
              refine dl_pure rfl rfl rfl (pure_move rfl rfl) ?_
              refine dl_pick 108 [(0, _), (3, _), (4, _), (51, _)] [(4, _)] rfl rfl ⟨rfl, rfl, rfl, rfl, trivial⟩ ?_
              refine dl_skip_g rfl rfl rfl rfl rfl ?_
              refine dl_skip_g rfl rfl rfl rfl rfl ?_
              refine dl_skip_g rfl rfl rfl rfl rfl ?_
              refine dl_pure rfl rfl rfl (pure_pick_t rfl rfl rfl rfl) ?_
              refine dl_pure rfl rfl rfl (pure_move rfl rfl) ?_
              refine dl_skip_g rfl rfl rfl rfl rfl ?_
              refine dl_skip_g rfl rfl rfl rfl rfl ?_
              refine dl_pick 108 [(0, _), (3, _), (4, _), (56, _), (58, _)] [(4, _)] rfl rfl ⟨rfl, rfl, rfl, rfl, rfl, trivial⟩ ?_
              refine dl_skip_g rfl rfl rfl rfl rfl ?_
              refine dl_pure rfl rfl rfl (pure_pick_t rfl rfl rfl rfl) ?_
              refine dl_pure rfl rfl rfl (pure_move rfl rfl) ?_
              refine dl_skip_g rfl rfl rfl rfl rfl ?_
              refine dl_skip_g rfl rfl rfl rfl rfl ?_
              refine dl_skip_g rfl rfl rfl rfl rfl ?_
              refine dl_pure rfl rfl rfl (pure_pick_t rfl rfl rfl rfl) ?_
              refine dl_pick 108 [(0, _), (3, _), (4, _), (65, _)] [(4, _)] rfl rfl ⟨rfl, rfl, rfl, rfl, trivial⟩ ?_
              refine dl_pure rfl rfl rfl (pure_move rfl rfl) ?_
              refine dl_skip_g rfl rfl rfl rfl rfl ?_
              refine dl_skip_g rfl rfl rfl rfl rfl ?_
              refine dl_skip_g rfl rfl rfl rfl rfl ?_
              refine dl_pure rfl rfl rfl (pure_pick_t rfl rfl rfl rfl) ?_
              refine dl_pure rfl rfl rfl (pure_move rfl rfl) ?_
              refine dl_skip_g rfl rfl rfl rfl rfl ?_
              refine dl_pick 108 [(0, _), (3, _), (4, _), (71, _), (72, _)] [(4, _)] rfl rfl ⟨rfl, rfl, rfl, rfl, rfl, trivial⟩ ?_
              refine dl_skip_g rfl rfl rfl rfl rfl ?_
              refine dl_skip_g rfl rfl rfl rfl rfl ?_
              refine dl_pure rfl rfl rfl (pure_pick_t rfl rfl rfl rfl) ?_
              refine dl_pure rfl rfl rfl (pure_move rfl rfl) ?_
              refine dl_skip_g rfl rfl rfl rfl rfl ?_
              refine dl_skip_g rfl rfl rfl rfl rfl ?_
              refine dl_skip_g rfl rfl rfl rfl rfl ?_
              refine dl_pure rfl rfl rfl (pure_pick_t rfl rfl rfl rfl) ?_
              refine dl_nil ?_
              refine cut_next (n := 108) (l := [(0, _), (3, _), (4, _), (80, _)]) (o' := [(4, _)]) rfl ⟨rfl, rfl, rfl, rfl, trivial⟩ ⟨rfl, trivial⟩ ?_   -- cut 8 end 1
              refine ⟨true, fun _ q => ?_, fun hz => (by cases hz), rfl⟩
              obtain ⟨q1, q2, q3, q4, q5, q6, q7, q8, q9, q10⟩ := q
              first | omega | simp_all
            · have h4' := h4; try simp only [decide_eq_true_eq, decide_eq_false_iff_not, Bool.not_eq_true', Bool.not_eq_false', Bool.and_eq_true, Bool.or_eq_true, Bool.and_eq_false_iff, List.length_map, Int.toNat_natCast] at h4'
              refine dl_pure_g rfl rfl h4 rfl rfl (pure_field_box rfl fd48_1 rfl rfl) ?_
              refine dl_pure_g rfl rfl h4 rfl rfl (pure_load_box rfl ag3 rfl rfl rfl) ?_
              refine dl_pick 108 [(0, _), (3, _), (4, _), (28, _), (30, _)] [(4, _)] rfl rfl ⟨rfl, rfl, rfl, rfl, rfl, trivial⟩ ?_
              refine dl_pure_g rfl rfl h4 rfl rfl (pure_lss rfl rfl rfl) ?_
              refine dl_pure rfl rfl rfl (pure_pick_f rfl rfl h4 rfl) ?_
              refine dl_pure rfl rfl rfl (pure_move rfl rfl) ?_
              refine dl_guard rfl (fun h5 => ?_) (fun h5 => ?_)
              · have h5' := h5; try simp only [decide_eq_true_eq, decide_eq_false_iff_not, Bool.not_eq_true', Bool.not_eq_false', Bool.and_eq_true, Bool.or_eq_true, Bool.and_eq_false_iff, List.length_map, Int.toNat_natCast] at h5'
                refine dl_skip_g rfl rfl h5 rfl rfl ?_
                refine dl_skip_g rfl rfl h5 rfl rfl ?_
                refine dl_skip_g rfl rfl h5 rfl rfl ?_
                refine dl_skip_g rfl rfl h5 rfl rfl ?_
                refine dl_pick 108 [(0, _), (3, _), (4, _), (33, _), (35, _), (37, _)] [(4, _)] rfl rfl ⟨rfl, rfl, rfl, rfl, rfl, rfl, trivial⟩ ?_
                refine dl_skip_g rfl rfl h5 rfl rfl ?_
                refine dl_pure rfl rfl rfl (pure_pick_t rfl rfl h5 rfl) ?_
                refine dl_pure rfl rfl rfl (pure_move rfl rfl) ?_
                refine dl_skip_g rfl rfl rfl rfl rfl ?_
                refine dl_skip_g rfl rfl rfl rfl rfl ?_
                refine dl_skip_g rfl rfl rfl rfl rfl ?_
                refine dl_skip_g rfl rfl rfl rfl rfl ?_
                refine dl_pick 108 [(0, _), (3, _), (4, _), (40, _), (44, _)] [(4, _)] rfl rfl ⟨rfl, rfl, rfl, rfl, rfl, trivial⟩ ?_
                refine dl_skip_g rfl rfl rfl rfl rfl ?_
                refine dl_skip_g rfl rfl rfl rfl rfl ?_
                refine dl_skip_g rfl rfl rfl rfl rfl ?_
                refine dl_skip_g rfl rfl rfl rfl rfl ?_
                refine dl_skip_g rfl rfl rfl rfl rfl ?_
                refine dl_pure rfl rfl rfl (pure_pick_t rfl rfl rfl rfl) ?_
                refine dl_pure rfl rfl rfl (pure_move rfl rfl) ?_
                refine dl_pick 108 [(0, _), (3, _), (4, _), (51, _)] [(4, _)] rfl rfl ⟨rfl, rfl, rfl, rfl, trivial⟩ ?_
                refine dl_skip_g rfl rfl rfl rfl rfl ?_
                refine dl_skip_g rfl rfl rfl rfl rfl ?_
                refine dl_skip_g rfl rfl rfl rfl rfl ?_
                refine dl_pure rfl rfl rfl (pure_pick_t rfl rfl rfl rfl) ?_
                refine dl_pure rfl rfl rfl (pure_move rfl rfl) ?_
                refine dl_skip_g rfl rfl rfl rfl rfl ?_
                refine dl_skip_g rfl rfl rfl rfl rfl ?_
                refine dl_pick 108 [(0, _), (3, _), (4, _), (56, _), (58, _)] [(4, _)] rfl rfl ⟨rfl, rfl, rfl, rfl, rfl, trivial⟩ ?_
                refine dl_skip_g rfl rfl rfl rfl rfl ?_
                refine dl_pure rfl rfl rfl (pure_pick_t rfl rfl rfl rfl) ?_
                refine dl_pure rfl rfl rfl (pure_move rfl rfl) ?_
                refine dl_skip_g rfl rfl rfl rfl rfl ?_
                refine dl_skip_g rfl rfl rfl rfl rfl ?_
                refine dl_skip_g rfl rfl rfl rfl rfl ?_
                refine dl_pure rfl rfl rfl (pure_pick_t rfl rfl rfl rfl) ?_
                refine dl_pick 108 [(0, _), (3, _), (4, _), (65, _)] [(4, _)] rfl rfl ⟨rfl, rfl, rfl, rfl, trivial⟩ ?_
                refine dl_pure rfl rfl rfl (pure_move rfl rfl) ?_
                refine dl_skip_g rfl rfl rfl rfl rfl ?_
                refine dl_skip_g rfl rfl rfl rfl rfl ?_
                refine dl_skip_g rfl rfl rfl rfl rfl ?_
                refine dl_pure rfl rfl rfl (pure_pick_t rfl rfl rfl rfl) ?_
                refine dl_pure rfl rfl rfl (pure_move rfl rfl) ?_
                refine dl_skip_g rfl rfl rfl rfl rfl ?_
                refine dl_pick 108 [(0, _), (3, _), (4, _), (71, _), (72, _)] [(4, _)] rfl rfl ⟨rfl, rfl, rfl, rfl, rfl, trivial⟩ ?_
                refine dl_skip_g rfl rfl rfl rfl rfl ?_
                refine dl_skip_g rfl rfl rfl rfl rfl ?_
                refine dl_pure rfl rfl rfl (pure_pick_t rfl rfl rfl rfl) ?_
                refine dl_pure rfl rfl rfl (pure_move rfl rfl) ?_
                refine dl_skip_g rfl rfl rfl rfl rfl ?_
                refine dl_skip_g rfl rfl rfl rfl rfl ?_
                refine dl_skip_g rfl rfl rfl rfl rfl ?_
                refine dl_pure rfl rfl rfl (pure_pick_t rfl rfl rfl rfl) ?_
                refine dl_nil ?_
                refine cut_next (n := 108) (l := [(0, _), (3, _), (4, _), (80, _)]) (o' := [(4, _)]) rfl ⟨rfl, rfl, rfl, rfl, trivial⟩ ⟨rfl, trivial⟩ ?_   -- cut 8 end 2
                refine ⟨true, fun _ q => ?_, fun hz => (by cases hz), rfl⟩
                obtain ⟨q1, q2, q3, q4, q5, q6, q7, q8, q9, q10⟩ := q
                first | omega | simp_all
              · have h5' := h5; try simp only [decide_eq_true_eq, decide_eq_false_iff_not, Bool.not_eq_true', Bool.not_eq_false', Bool.and_eq_true, Bool.or_eq_true, Bool.and_eq_false_iff, List.length_map, Int.toNat_natCast] at h5'
                refine dl_pure_g rfl rfl h5 rfl rfl (pure_field_box rfl fd48_1 rfl rfl) ?_
                refine dl_pure_g rfl rfl h5 rfl rfl (pure_load_box rfl ag3 rfl rfl rfl) ?_
                refine dl_pure_g rfl rfl h5 rfl rfl (pure_move rfl rfl) ?_
                refine dl_pure_g rfl rfl h5 rfl rfl (pure_lenm rfl Try.underlying24 rfl) ?_
                refine dl_pick 108 [(0, _), (3, _), (4, _), (33, _), (35, _), (37, _)] [(4, _)] rfl rfl ⟨rfl, rfl, rfl, rfl, rfl, rfl, trivial⟩ ?_
                refine dl_pure_g rfl rfl h5 rfl rfl (pure_geq rfl rfl rfl) ?_
                refine dl_pure rfl rfl rfl (pure_pick_f rfl rfl h5 rfl) ?_
                refine dl_pure rfl rfl rfl (pure_move rfl rfl) ?_
                refine dl_guard rfl (fun h6 => ?_) (fun h6 => ?_)
                · have h6' := h6; try simp only [decide_eq_true_eq, decide_eq_false_iff_not, Bool.not_eq_true', Bool.not_eq_false', Bool.and_eq_true, Bool.or_eq_true, Bool.and_eq_false_iff, List.length_map, Int.toNat_natCast] at h6'
                  refine dl_skip_g rfl rfl h6 rfl rfl ?_
                  refine dl_skip_g rfl rfl h6 rfl rfl ?_
                  refine dl_skip_g rfl rfl h6 rfl rfl ?_
                  refine dl_skip_g rfl rfl h6 rfl rfl ?_
                  refine dl_pick 108 [(0, _), (3, _), (4, _), (40, _), (44, _)] [(4, _)] rfl rfl ⟨rfl, rfl, rfl, rfl, rfl, trivial⟩ ?_
                  refine dl_skip_g rfl rfl h6 rfl rfl ?_
                  refine dl_skip_g rfl rfl h6 rfl rfl ?_
                  refine dl_skip_g rfl rfl h6 rfl rfl ?_
                  refine dl_skip_g rfl rfl h6 rfl rfl ?_
                  refine dl_skip_g rfl rfl h6 rfl rfl ?_
                  refine dl_pure rfl rfl rfl (pure_pick_t rfl rfl h6 rfl) ?_
                  refine dl_pure rfl rfl rfl (pure_move rfl rfl) ?_
                  refine dl_pick 108 [(0, _), (3, _), (4, _), (51, _)] [(4, _)] rfl rfl ⟨rfl, rfl, rfl, rfl, trivial⟩ ?_
                  refine dl_skip_g rfl rfl rfl rfl rfl ?_
                  refine dl_skip_g rfl rfl rfl rfl rfl ?_
                  refine dl_skip_g rfl rfl rfl rfl rfl ?_
                  refine dl_pure rfl rfl rfl (pure_pick_t rfl rfl rfl rfl) ?_
                  refine dl_pure rfl rfl rfl (pure_move rfl rfl) ?_
                  refine dl_skip_g rfl rfl rfl rfl rfl ?_
                  refine dl_skip_g rfl rfl rfl rfl rfl ?_
                  refine dl_pick 108 [(0, _), (3, _), (4, _), (56, _), (58, _)] [(4, _)] rfl rfl ⟨rfl, rfl, rfl, rfl, rfl, trivial⟩ ?_
                  refine dl_skip_g rfl rfl rfl rfl rfl ?_
                  refine dl_pure rfl rfl rfl (pure_pick_t rfl rfl rfl rfl) ?_
                  refine dl_pure rfl rfl rfl (pure_move rfl rfl) ?_
                  refine dl_skip_g rfl rfl rfl rfl rfl ?_
                  refine dl_skip_g rfl rfl rfl rfl rfl ?_
                  refine dl_skip_g rfl rfl rfl rfl rfl ?_
                  refine dl_pure rfl rfl rfl (pure_pick_t rfl rfl rfl rfl) ?_
                  refine dl_pick 108 [(0, _), (3, _), (4, _), (65, _)] [(4, _)] rfl rfl ⟨rfl, rfl, rfl, rfl, trivial⟩ ?_
                  refine dl_pure rfl rfl rfl (pure_move rfl rfl) ?_
                  refine dl_skip_g rfl rfl rfl rfl rfl ?_
                  refine dl_skip_g rfl rfl rfl rfl rfl ?_
                  refine dl_skip_g rfl rfl rfl rfl rfl ?_
                  refine dl_pure rfl rfl rfl (pure_pick_t rfl rfl rfl rfl) ?_
                  refine dl_pure rfl rfl rfl (pure_move rfl rfl) ?_
                  refine dl_skip_g rfl rfl rfl rfl rfl ?_
                  refine dl_pick 108 [(0, _), (3, _), (4, _), (71, _), (72, _)] [(4, _)] rfl rfl ⟨rfl, rfl, rfl, rfl, rfl, trivial⟩ ?_
                  refine dl_skip_g rfl rfl rfl rfl rfl ?_
                  refine dl_skip_g rfl rfl rfl rfl rfl ?_
                  refine dl_pure rfl rfl rfl (pure_pick_t rfl rfl rfl rfl) ?_
                  refine dl_pure rfl rfl rfl (pure_move rfl rfl) ?_
                  refine dl_skip_g rfl rfl rfl rfl rfl ?_
                  refine dl_skip_g rfl rfl rfl rfl rfl ?_
                  refine dl_skip_g rfl rfl rfl rfl rfl ?_
                  refine dl_pure rfl rfl rfl (pure_pick_t rfl rfl rfl rfl) ?_
                  refine dl_nil ?_
                  refine cut_next (n := 108) (l := [(0, _), (3, _), (4, _), (80, _)]) (o' := [(4, _)]) rfl ⟨rfl, rfl, rfl, rfl, trivial⟩ ⟨rfl, trivial⟩ ?_   -- cut 8 end 3
                  refine ⟨true, fun _ q => ?_, fun hz => (by cases hz), rfl⟩
                  obtain ⟨q1, q2, q3, q4, q5, q6, q7, q8, q9, q10⟩ := q
                  first | omega | simp_all
                · have h6' := h6; try simp only [decide_eq_true_eq, decide_eq_false_iff_not, Bool.not_eq_true', Bool.not_eq_false', Bool.and_eq_true, Bool.or_eq_true, Bool.and_eq_false_iff, List.length_map, Int.toNat_natCast] at h6'
                  refine dl_pure_g rfl rfl h6 rfl rfl (pure_move rfl rfl) ?_
                  refine dl_pure_g rfl rfl h6 rfl rfl (pure_field_box rfl fd48_1 rfl rfl) ?_
                  refine dl_pure_g rfl rfl h6 rfl rfl (pure_load_box rfl ag3 rfl rfl rfl) ?_
                  first | refine dl_pure_g rfl rfl h6 rfl rfl (pure_indexn rfl Try.underlying24 sz48 rfl rfl (by omega) (fun _ => rfl)) ?_ | refine dl_pure_g rfl rfl h6 rfl rfl (pure_indexm rfl Try.underlying24 sz48 rfl rfl (by omega) (fun _ => rfl)) ?_
                  refine dl_pick 108 [(0, _), (3, _), (4, _), (40, _), (44, _)] [(4, _)] rfl rfl ⟨rfl, rfl, rfl, rfl, rfl, trivial⟩ ?_
                  refine dl_pure_g rfl rfl h6 rfl rfl (pure_field rfl fd48_1 rfl) ?_
                  refine dl_pure_g rfl rfl h6 rfl rfl (pure_load rfl ag3 rfl rfl) ?_
                  refine dl_pure_g rfl rfl h6 rfl rfl (pure_field_box rfl fd48_1 rfl rfl) ?_
                  refine dl_pure_g rfl rfl h6 rfl rfl (pure_load_box rfl ag3 rfl rfl rfl) ?_
                  refine dl_pure_g rfl rfl h6 rfl rfl (pure_neq rfl rfl rfl) ?_
                  refine dl_pure rfl rfl rfl (pure_pick_f rfl rfl h6 rfl) ?_
                  refine dl_pure rfl rfl rfl (pure_move rfl rfl) ?_
                  refine dl_pick 108 [(0, _), (3, _), (4, _), (51, _)] [(4, _)] rfl rfl ⟨rfl, rfl, rfl, rfl, trivial⟩ ?_
                  refine dl_guard rfl (fun h7 => ?_) (fun h7 => ?_)
                  · have h7' := h7; try simp only [decide_eq_true_eq, decide_eq_false_iff_not, Bool.not_eq_true', Bool.not_eq_false', Bool.and_eq_true, Bool.or_eq_true, Bool.and_eq_false_iff, List.length_map, Int.toNat_natCast] at h7'
                    refine dl_pick 108 [(0, _), (3, _), (4, _), (51, _)] [(4, _)] rfl rfl ⟨rfl, rfl, rfl, rfl, trivial⟩ ?_
                    refine dl_skip_g rfl rfl h7 rfl rfl ?_
                    refine dl_skip_g rfl rfl h7 rfl rfl ?_
                    refine dl_skip_g rfl rfl h7 rfl rfl ?_
                    refine dl_pure rfl rfl rfl (pure_pick_t rfl rfl h7 rfl) ?_
                    refine dl_pure rfl rfl rfl (pure_move rfl rfl) ?_
                    refine dl_skip_g rfl rfl rfl rfl rfl ?_
                    refine dl_skip_g rfl rfl rfl rfl rfl ?_
                    refine dl_pick 108 [(0, _), (3, _), (4, _), (56, _), (58, _)] [(4, _)] rfl rfl ⟨rfl, rfl, rfl, rfl, rfl, trivial⟩ ?_
                    refine dl_skip_g rfl rfl rfl rfl rfl ?_
                    refine dl_pure rfl rfl rfl (pure_pick_t rfl rfl rfl rfl) ?_
                    refine dl_pure rfl rfl rfl (pure_move rfl rfl) ?_
                    refine dl_skip_g rfl rfl rfl rfl rfl ?_
                    refine dl_skip_g rfl rfl rfl rfl rfl ?_
                    refine dl_skip_g rfl rfl rfl rfl rfl ?_
                    refine dl_pure rfl rfl rfl (pure_pick_t rfl rfl rfl rfl) ?_
                    refine dl_pick 108 [(0, _), (3, _), (4, _), (65, _)] [(4, _)] rfl rfl ⟨rfl, rfl, rfl, rfl, trivial⟩ ?_
                    refine dl_pure rfl rfl rfl (pure_move rfl rfl) ?_
                    refine dl_skip_g rfl rfl rfl rfl rfl ?_
                    refine dl_skip_g rfl rfl rfl rfl rfl ?_
                    refine dl_skip_g rfl rfl rfl rfl rfl ?_
                    refine dl_pure rfl rfl rfl (pure_pick_t rfl rfl rfl rfl) ?_
                    refine dl_pure rfl rfl rfl (pure_move rfl rfl) ?_
                    refine dl_skip_g rfl rfl rfl rfl rfl ?_
                    refine dl_pick 108 [(0, _), (3, _), (4, _), (71, _), (72, _)] [(4, _)] rfl rfl ⟨rfl, rfl, rfl, rfl, rfl, trivial⟩ ?_
                    refine dl_skip_g rfl rfl rfl rfl rfl ?_
                    refine dl_skip_g rfl rfl rfl rfl rfl ?_
                    refine dl_pure rfl rfl rfl (pure_pick_t rfl rfl rfl rfl) ?_
                    refine dl_pure rfl rfl rfl (pure_move rfl rfl) ?_
                    refine dl_skip_g rfl rfl rfl rfl rfl ?_
                    refine dl_skip_g rfl rfl rfl rfl rfl ?_
                    refine dl_skip_g rfl rfl rfl rfl rfl ?_
                    refine dl_pure rfl rfl rfl (pure_pick_t rfl rfl rfl rfl) ?_
                    refine dl_nil ?_
                    refine cut_next (n := 108) (l := [(0, _), (3, _), (4, _), (80, _)]) (o' := [(4, _)]) rfl ⟨rfl, rfl, rfl, rfl, trivial⟩ ⟨rfl, trivial⟩ ?_   -- cut 8 end 4
                    refine ⟨true, fun _ q => ?_, fun hz => (by cases hz), rfl⟩
                    obtain ⟨q1, q2, q3, q4, q5, q6, q7, q8, q9, q10⟩ := q
                    first | omega | simp_all
                  · have h7' := h7; try simp only [decide_eq_true_eq, decide_eq_false_iff_not, Bool.not_eq_true', Bool.not_eq_false', Bool.and_eq_true, Bool.or_eq_true, Bool.and_eq_false_iff, List.length_map, Int.toNat_natCast] at h7'
                    refine dl_pick 108 [(0, _), (3, _), (4, _), (51, _)] [(4, _)] rfl rfl ⟨rfl, rfl, rfl, rfl, trivial⟩ ?_
                    refine dl_pure_g rfl rfl h7 rfl rfl (pure_field_box rfl fd48_2 rfl rfl) ?_
                    refine dl_pure_g rfl rfl h7 rfl rfl (pure_load_box rfl ag3 rfl rfl rfl) ?_
                    refine dl_pure_g rfl rfl h7 rfl rfl (pure_lss rfl rfl rfl) ?_
                    refine dl_pure rfl rfl rfl (pure_pick_f rfl rfl h7 rfl) ?_
                    refine dl_pure rfl rfl rfl (pure_move rfl rfl) ?_
                    refine dl_guard rfl (fun h8 => ?_) (fun h8 => ?_)
                    · have h8' := h8; try simp only [decide_eq_true_eq, decide_eq_false_iff_not, Bool.not_eq_true', Bool.not_eq_false', Bool.and_eq_true, Bool.or_eq_true, Bool.and_eq_false_iff, List.length_map, Int.toNat_natCast] at h8'
                      refine dl_skip_g rfl rfl h8 rfl rfl ?_
                      refine dl_skip_g rfl rfl h8 rfl rfl ?_
                      refine dl_pick 108 [(0, _), (3, _), (4, _), (56, _), (58, _)] [(4, _)] rfl rfl ⟨rfl, rfl, rfl, rfl, rfl, trivial⟩ ?_
                      refine dl_skip_g rfl rfl h8 rfl rfl ?_
                      refine dl_pure rfl rfl rfl (pure_pick_t rfl rfl h8 rfl) ?_
                      refine dl_pure rfl rfl rfl (pure_move rfl rfl) ?_
                      refine dl_skip_g rfl rfl rfl rfl rfl ?_
                      refine dl_skip_g rfl rfl rfl rfl rfl ?_
                      refine dl_skip_g rfl rfl rfl rfl rfl ?_
                      refine dl_pure rfl rfl rfl (pure_pick_t rfl rfl rfl rfl) ?_
                      refine dl_pick 108 [(0, _), (3, _), (4, _), (65, _)] [(4, _)] rfl rfl ⟨rfl, rfl, rfl, rfl, trivial⟩ ?_
                      refine dl_pure rfl rfl rfl (pure_move rfl rfl) ?_
                      refine dl_skip_g rfl rfl rfl rfl rfl ?_
                      refine dl_skip_g rfl rfl rfl rfl rfl ?_
                      refine dl_skip_g rfl rfl rfl rfl rfl ?_
                      refine dl_pure rfl rfl rfl (pure_pick_t rfl rfl rfl rfl) ?_
                      refine dl_pure rfl rfl rfl (pure_move rfl rfl) ?_
                      refine dl_skip_g rfl rfl rfl rfl rfl ?_
                      refine dl_pick 108 [(0, _), (3, _), (4, _), (71, _), (72, _)] [(4, _)] rfl rfl ⟨rfl, rfl, rfl, rfl, rfl, trivial⟩ ?_
                      refine dl_skip_g rfl rfl rfl rfl rfl ?_
                      refine dl_skip_g rfl rfl rfl rfl rfl ?_
                      refine dl_pure rfl rfl rfl (pure_pick_t rfl rfl rfl rfl) ?_
                      refine dl_pure rfl rfl rfl (pure_move rfl rfl) ?_
                      refine dl_skip_g rfl rfl rfl rfl rfl ?_
                      refine dl_skip_g rfl rfl rfl rfl rfl ?_
                      refine dl_skip_g rfl rfl rfl rfl rfl ?_
                      refine dl_pure rfl rfl rfl (pure_pick_t rfl rfl rfl rfl) ?_
                      refine dl_nil ?_
                      refine cut_next (n := 108) (l := [(0, _), (3, _), (4, _), (80, _)]) (o' := [(4, _)]) rfl ⟨rfl, rfl, rfl, rfl, trivial⟩ ⟨rfl, trivial⟩ ?_   -- cut 8 end 5
                      refine ⟨true, fun _ q => ?_, fun hz => (by cases hz), rfl⟩
                      obtain ⟨q1, q2, q3, q4, q5, q6, q7, q8, q9, q10⟩ := q
                      first | omega | simp_all
                    · have h8' := h8; try simp only [decide_eq_true_eq, decide_eq_false_iff_not, Bool.not_eq_true', Bool.not_eq_false', Bool.and_eq_true, Bool.or_eq_true, Bool.and_eq_false_iff, List.length_map, Int.toNat_natCast] at h8'
                      refine dl_pure_g rfl rfl h8 rfl rfl (pure_field_box rfl fd48_2 rfl rfl) ?_
                      refine dl_pure_g rfl rfl h8 rfl rfl (pure_load_box rfl ag3 rfl rfl rfl) ?_
                      refine dl_pick 108 [(0, _), (3, _), (4, _), (56, _), (58, _)] [(4, _)] rfl rfl ⟨rfl, rfl, rfl, rfl, rfl, trivial⟩ ?_
                      refine dl_pure_g rfl rfl h8 rfl rfl (pure_gtr rfl rfl rfl) ?_
                      refine dl_pure rfl rfl rfl (pure_pick_f rfl rfl h8 rfl) ?_
                      refine dl_pure rfl rfl rfl (pure_move rfl rfl) ?_
                      refine dl_guard rfl (fun h9 => ?_) (fun h9 => ?_)
                      · have h9' := h9; try simp only [decide_eq_true_eq, decide_eq_false_iff_not, Bool.not_eq_true', Bool.not_eq_false', Bool.and_eq_true, Bool.or_eq_true, Bool.and_eq_false_iff, List.length_map, Int.toNat_natCast] at h9'
                        refine dl_skip_g rfl rfl h9 rfl rfl ?_
                        refine dl_skip_g rfl rfl h9 rfl rfl ?_
                        refine dl_skip_g rfl rfl h9 rfl rfl ?_
                        refine dl_pure rfl rfl rfl (pure_pick_t rfl rfl h9 rfl) ?_
                        refine dl_pick 108 [(0, _), (3, _), (4, _), (65, _)] [(4, _)] rfl rfl ⟨rfl, rfl, rfl, rfl, trivial⟩ ?_
                        refine dl_pure rfl rfl rfl (pure_move rfl rfl) ?_
                        refine dl_skip_g rfl rfl rfl rfl rfl ?_
                        refine dl_skip_g rfl rfl rfl rfl rfl ?_
                        refine dl_skip_g rfl rfl rfl rfl rfl ?_
                        refine dl_pure rfl rfl rfl (pure_pick_t rfl rfl rfl rfl) ?_
                        refine dl_pure rfl rfl rfl (pure_move rfl rfl) ?_
                        refine dl_skip_g rfl rfl rfl rfl rfl ?_
                        refine dl_pick 108 [(0, _), (3, _), (4, _), (71, _), (72, _)] [(4, _)] rfl rfl ⟨rfl, rfl, rfl, rfl, rfl, trivial⟩ ?_
                        refine dl_skip_g rfl rfl rfl rfl rfl ?_
                        refine dl_skip_g rfl rfl rfl rfl rfl ?_
                        refine dl_pure rfl rfl rfl (pure_pick_t rfl rfl rfl rfl) ?_
                        refine dl_pure rfl rfl rfl (pure_move rfl rfl) ?_
                        refine dl_skip_g rfl rfl rfl rfl rfl ?_
                        refine dl_skip_g rfl rfl rfl rfl rfl ?_
                        refine dl_skip_g rfl rfl rfl rfl rfl ?_
                        refine dl_pure rfl rfl rfl (pure_pick_t rfl rfl rfl rfl) ?_
                        refine dl_nil ?_
                        refine cut_next (n := 108) (l := [(0, _), (3, _), (4, _), (80, _)]) (o' := [(4, _)]) rfl ⟨rfl, rfl, rfl, rfl, trivial⟩ ⟨rfl, trivial⟩ ?_   -- cut 8 end 6
                        refine ⟨true, fun _ q => ?_, fun hz => (by cases hz), rfl⟩
                        obtain ⟨q1, q2, q3, q4, q5, q6, q7, q8, q9, q10⟩ := q
                        first | omega | simp_all
                      · have h9' := h9; try simp only [decide_eq_true_eq, decide_eq_false_iff_not, Bool.not_eq_true', Bool.not_eq_false', Bool.and_eq_true, Bool.or_eq_true, Bool.and_eq_false_iff, List.length_map, Int.toNat_natCast] at h9'
                        refine dl_pure_g rfl rfl h9 rfl rfl (pure_field_box rfl fd48_3 rfl rfl) ?_
                        refine dl_pure_g rfl rfl h9 rfl rfl (pure_load_box rfl ag3 rfl rfl rfl) ?_
                        refine dl_pure_g rfl rfl h9 rfl rfl (pure_lss rfl rfl rfl) ?_
                        refine dl_pure rfl rfl rfl (pure_pick_f rfl rfl h9 rfl) ?_
                        refine dl_pick 108 [(0, _), (3, _), (4, _), (65, _)] [(4, _)] rfl rfl ⟨rfl, rfl, rfl, rfl, trivial⟩ ?_
                        refine dl_pure rfl rfl rfl (pure_move rfl rfl) ?_
                        refine dl_guard rfl (fun h10 => ?_) (fun h10 => ?_)
                        · have h10' := h10; try simp only [decide_eq_true_eq, decide_eq_false_iff_not, Bool.not_eq_true', Bool.not_eq_false', Bool.and_eq_true, Bool.or_eq_true, Bool.and_eq_false_iff, List.length_map, Int.toNat_natCast] at h10'
                          refine dl_skip_g rfl rfl h10 rfl rfl ?_
                          refine dl_skip_g rfl rfl h10 rfl rfl ?_
                          refine dl_skip_g rfl rfl h10 rfl rfl ?_
                          refine dl_pure rfl rfl rfl (pure_pick_t rfl rfl h10 rfl) ?_
                          refine dl_pure rfl rfl rfl (pure_move rfl rfl) ?_
                          refine dl_skip_g rfl rfl rfl rfl rfl ?_
                          refine dl_pick 108 [(0, _), (3, _), (4, _), (71, _), (72, _)] [(4, _)] rfl rfl ⟨rfl, rfl, rfl, rfl, rfl, trivial⟩ ?_
                          refine dl_skip_g rfl rfl rfl rfl rfl ?_
                          refine dl_skip_g rfl rfl rfl rfl rfl ?_
                          refine dl_pure rfl rfl rfl (pure_pick_t rfl rfl rfl rfl) ?_
                          refine dl_pure rfl rfl rfl (pure_move rfl rfl) ?_
                          refine dl_skip_g rfl rfl rfl rfl rfl ?_
                          refine dl_skip_g rfl rfl rfl rfl rfl ?_
                          refine dl_skip_g rfl rfl rfl rfl rfl ?_
                          refine dl_pure rfl rfl rfl (pure_pick_t rfl rfl rfl rfl) ?_
                          refine dl_nil ?_
                          refine cut_next (n := 108) (l := [(0, _), (3, _), (4, _), (80, _)]) (o' := [(4, _)]) rfl ⟨rfl, rfl, rfl, rfl, trivial⟩ ⟨rfl, trivial⟩ ?_   -- cut 8 end 7
                          refine ⟨true, fun _ q => ?_, fun hz => (by cases hz), rfl⟩
                          obtain ⟨q1, q2, q3, q4, q5, q6, q7, q8, q9, q10⟩ := q
                          first | omega | simp_all
                        · have h10' := h10; try simp only [decide_eq_true_eq, decide_eq_false_iff_not, Bool.not_eq_true', Bool.not_eq_false', Bool.and_eq_true, Bool.or_eq_true, Bool.and_eq_false_iff, List.length_map, Int.toNat_natCast] at h10'
                          refine dl_pure_g rfl rfl h10 rfl rfl (pure_field_box rfl fd48_3 rfl rfl) ?_
                          refine dl_pure_g rfl rfl h10 rfl rfl (pure_load_box rfl ag3 rfl rfl rfl) ?_
                          refine dl_pure_g rfl rfl h10 rfl rfl (pure_gtr rfl rfl rfl) ?_
                          refine dl_pure rfl rfl rfl (pure_pick_f rfl rfl h10 rfl) ?_
                          refine dl_pure rfl rfl rfl (pure_move rfl rfl) ?_
                          refine dl_guard rfl (fun h11 => ?_) (fun h11 => ?_)
                          · have h11' := h11; try simp only [decide_eq_true_eq, decide_eq_false_iff_not, Bool.not_eq_true', Bool.not_eq_false', Bool.and_eq_true, Bool.or_eq_true, Bool.and_eq_false_iff, List.length_map, Int.toNat_natCast] at h11'
                            refine dl_skip_g rfl rfl h11 rfl rfl ?_
                            refine dl_pick 108 [(0, _), (3, _), (4, _), (71, _), (72, _)] [(4, _)] rfl rfl ⟨rfl, rfl, rfl, rfl, rfl, trivial⟩ ?_
                            refine dl_skip_g rfl rfl h11 rfl rfl ?_
                            refine dl_skip_g rfl rfl h11 rfl rfl ?_
                            refine dl_pure rfl rfl rfl (pure_pick_t rfl rfl h11 rfl) ?_
                            refine dl_pure rfl rfl rfl (pure_move rfl rfl) ?_
                            refine dl_skip_g rfl rfl rfl rfl rfl ?_
                            refine dl_skip_g rfl rfl rfl rfl rfl ?_
                            refine dl_skip_g rfl rfl rfl rfl rfl ?_
                            refine dl_pure rfl rfl rfl (pure_pick_t rfl rfl rfl rfl) ?_
                            refine dl_nil ?_
                            refine cut_next (n := 108) (l := [(0, _), (3, _), (4, _), (80, _)]) (o' := [(4, _)]) rfl ⟨rfl, rfl, rfl, rfl, trivial⟩ ⟨rfl, trivial⟩ ?_   -- cut 8 end 8
                            refine ⟨true, fun _ q => ?_, fun hz => (by cases hz), rfl⟩
                            obtain ⟨q1, q2, q3, q4, q5, q6, q7, q8, q9, q10⟩ := q
                            first | omega | simp_all
                          · have h11' := h11; try simp only [decide_eq_true_eq, decide_eq_false_iff_not, Bool.not_eq_true', Bool.not_eq_false', Bool.and_eq_true, Bool.or_eq_true, Bool.and_eq_false_iff, List.length_map, Int.toNat_natCast] at h11'
                            refine dl_pure_g rfl rfl h11 rfl rfl (pure_field_box rfl fd48_4 rfl rfl) ?_
                            refine dl_pick 108 [(0, _), (3, _), (4, _), (71, _), (72, _)] [(4, _)] rfl rfl ⟨rfl, rfl, rfl, rfl, rfl, trivial⟩ ?_
                            refine dl_pure_g rfl rfl h11 rfl rfl (pure_load_box rfl ag3 rfl rfl rfl) ?_
                            refine dl_pure_g rfl rfl h11 rfl rfl (pure_lss rfl rfl rfl) ?_
                            refine dl_pure rfl rfl rfl (pure_pick_f rfl rfl h11 rfl) ?_
                            refine dl_pure rfl rfl rfl (pure_move rfl rfl) ?_
                            refine dl_guard rfl (fun h12 => ?_) (fun h12 => ?_)
                            · have h12' := h12; try simp only [decide_eq_true_eq, decide_eq_false_iff_not, Bool.not_eq_true', Bool.not_eq_false', Bool.and_eq_true, Bool.or_eq_true, Bool.and_eq_false_iff, List.length_map, Int.toNat_natCast] at h12'
                              refine dl_skip_g rfl rfl h12 rfl rfl ?_
                              refine dl_skip_g rfl rfl h12 rfl rfl ?_
                              refine dl_skip_g rfl rfl h12 rfl rfl ?_
                              refine dl_pure rfl rfl rfl (pure_pick_t rfl rfl h12 rfl) ?_
                              refine dl_nil ?_
                              refine cut_next (n := 108) (l := [(0, _), (3, _), (4, _), (80, _)]) (o' := [(4, _)]) rfl ⟨rfl, rfl, rfl, rfl, trivial⟩ ⟨rfl, trivial⟩ ?_   -- cut 8 end 9
                              refine ⟨true, fun _ q => ?_, fun hz => (by cases hz), rfl⟩
                              obtain ⟨q1, q2, q3, q4, q5, q6, q7, q8, q9, q10⟩ := q
                              first | omega | simp_all
                            · have h12' := h12; try simp only [decide_eq_true_eq, decide_eq_false_iff_not, Bool.not_eq_true', Bool.not_eq_false', Bool.and_eq_true, Bool.or_eq_true, Bool.and_eq_false_iff, List.length_map, Int.toNat_natCast] at h12'
                              refine dl_pure_g rfl rfl h12 rfl rfl (pure_field_box rfl fd48_4 rfl rfl) ?_
                              refine dl_pure_g rfl rfl h12 rfl rfl (pure_load_box rfl ag3 rfl rfl rfl) ?_
                              refine dl_pure_g rfl rfl h12 rfl rfl (pure_gtr rfl rfl rfl) ?_
                              refine dl_pure rfl rfl rfl (pure_pick_f rfl rfl h12 rfl) ?_
                              refine dl_nil ?_
                              refine cut_next (n := 108) (l := [(0, _), (3, _), (4, _), (80, _)]) (o' := [(4, _)]) rfl ⟨rfl, rfl, rfl, rfl, trivial⟩ ⟨rfl, trivial⟩ ?_   -- cut 8 end 10
                              refine ⟨_, fun hz q => ?_, fun hz => ?_, rfl⟩
                              · obtain ⟨q1, q2, q3, q4, q5, q6, q7, q8, q9, q10⟩ := q
                                simp only [decide_eq_true_eq] at hz; omega
                              · simp only [decide_eq_false_iff_not] at hz; exact ⟨by simp_all, by omega, by omega, by simp_all, by omega, by omega, by omega, by omega, by omega, by omega⟩
          · rintro zs ⟨z, hC8_0, hC8_1, rfl⟩
            refine code_cond rfl (fun h13 => ?_) (fun h13 => ?_)
            · try simp only [decide_eq_true_eq, decide_eq_false_iff_not, Bool.not_eq_true', Bool.not_eq_false', Bool.and_eq_true, Bool.or_eq_true, Bool.and_eq_false_iff, List.length_map, Int.toNat_natCast] at h13
              refine code_seq ?_
              refine code_ops _ rfl ?_
              refine ol_pure rfl rfl rfl (pure_assign rfl rfl) ?_
              refine ol_nil ?_
              refine seq_pick 108 [(2, _)] [] rfl ⟨rfl, trivial⟩ trivial ?_
              refine code_ret ?_
              refine seqQ_ret ?_
              refine blockQ_ret ?_
              refine seqQ_ret ?_
              refine loopM_ret ?_
              refine blockQ_ret ?_
              refine seqQ_ret ?_
              refine end_ret rfl ?_   -- end 3
              first | (rw [validA_size (by omega)]; done) | (rw [validA_bad1 (i := i) (by omega) (hC8_0 (by assumption))]; done) | (rw [validA_bad2 (i := i) (by omega) (hC10_0 (by assumption))]; done) | (rw [validA_bad3 (i := i) (k := k) (by omega) (by omega) (by simp_all)]; done) | (rw [validA_good (n := i) (by omega) (by omega) hL1_1]; done)
            · try simp only [decide_eq_true_eq, decide_eq_false_iff_not, Bool.not_eq_true', Bool.not_eq_false', Bool.and_eq_true, Bool.or_eq_true, Bool.and_eq_false_iff, List.length_map, Int.toNat_natCast] at h13
              refine code_skip ?_
              refine seq_pick 108 [(0, _), (3, _), (4, _)] [(4, _)] rfl ⟨rfl, rfl, rfl, trivial⟩ ⟨rfl, trivial⟩ ?_
              refine code_seq ?_
              refine code_cut (fun zs => ∃ z : Bool, (z = true → ¬ ok2P (a.getD i default) i) ∧ (z = false → ok2P (a.getD i default) i) ∧ zs = ⟨108, [(0, .v .mx (letters a)), (3, .v .pl (int i)), (4, .pbox 4 0), (94, .v .pl (bool z))], [(4, .box 48 (lcells .mx (a.getD i default)))]⟩) ?_ ?_
              · skip
                refine code_ops _ rfl ?_
                refine ol_pure rfl rfl rfl (pure_field_box rfl fd48_1 rfl rfl) ?_
                refine ol_pure rfl rfl rfl (pure_load_box rfl ag3 rfl rfl rfl) ?_
                refine ol_pure rfl rfl rfl (pure_move rfl rfl) ?_
                refine ol_pure rfl rfl rfl (pure_eql rfl rfl rfl) ?_
                refine ol_pure rfl rfl rfl (pure_move rfl rfl) ?_
                refine ol_guard rfl (fun h14 => ?_) (fun h14 => ?_)
                · have h14' := h14; try simp only [decide_eq_true_eq, decide_eq_false_iff_not, Bool.not_eq_true', Bool.not_eq_false', Bool.and_eq_true, Bool.or_eq_true, Bool.and_eq_false_iff, List.length_map, Int.toNat_natCast] at h14'
                  refine ol_pure_g rfl rfl h14 rfl rfl (pure_field_box rfl fd48_2 rfl rfl) ?_
                  refine ol_pure_g rfl rfl h14 rfl rfl (pure_load_box rfl ag3 rfl rfl rfl) ?_
                  refine ol_pick 108 [(0, _), (3, _), (4, _), (85, _), (87, _)] [(4, _)] rfl ⟨rfl, rfl, rfl, rfl, rfl, trivial⟩ ⟨rfl, trivial⟩ ?_
                  refine ol_pure_g rfl rfl h14 rfl rfl (pure_neq rfl rfl rfl) ?_
                  refine ol_pure_g rfl rfl h14 rfl rfl (pure_move rfl rfl) ?_
                  refine ol_guard rfl (fun h15 => ?_) (fun h15 => ?_)
                  · have h15' := h15; try simp only [decide_eq_true_eq, decide_eq_false_iff_not, Bool.not_eq_true', Bool.not_eq_false', Bool.and_eq_true, Bool.or_eq_true, Bool.and_eq_false_iff, List.length_map, Int.toNat_natCast] at h15'
                    refine ol_skip_g rfl rfl h15 rfl rfl ?_
                    refine ol_skip_g rfl rfl h15 rfl rfl ?_
                    refine ol_skip_g rfl rfl h15 rfl rfl ?_
                    refine ol_pure_g rfl rfl h14 rfl rfl (pure_pick_t rfl rfl h15 rfl) ?_
                    refine ol_pure rfl rfl rfl (pure_pick_t rfl rfl h14 rfl) ?_
                    refine ol_nil ?_
                    refine cut_next (n := 108) (l := [(0, _), (3, _), (4, _), (94, _)]) (o' := [(4, _)]) rfl ⟨rfl, rfl, rfl, rfl, trivial⟩ ⟨rfl, trivial⟩ ?_   -- cut 10 end 1
                    refine ⟨true, fun _ q => ?_, fun hz => (by cases hz), rfl⟩
                    have q1 := q (by omega); omega
                  · have h15' := h15; try simp only [decide_eq_true_eq, decide_eq_false_iff_not, Bool.not_eq_true', Bool.not_eq_false', Bool.and_eq_true, Bool.or_eq_true, Bool.and_eq_false_iff, List.length_map, Int.toNat_natCast] at h15'
                    refine ol_pure_g rfl rfl h15 rfl rfl (pure_field_box rfl fd48_3 rfl rfl) ?_
                    refine ol_pure_g rfl rfl h15 rfl rfl (pure_load_box rfl ag3 rfl rfl rfl) ?_
                    refine ol_pure_g rfl rfl h15 rfl rfl (pure_neq rfl rfl rfl) ?_
                    refine ol_pure_g rfl rfl h14 rfl rfl (pure_pick_f rfl rfl h15 rfl) ?_
                    refine ol_pure rfl rfl rfl (pure_pick_t rfl rfl h14 rfl) ?_
                    refine ol_nil ?_
                    refine cut_next (n := 108) (l := [(0, _), (3, _), (4, _), (94, _)]) (o' := [(4, _)]) rfl ⟨rfl, rfl, rfl, rfl, trivial⟩ ⟨rfl, trivial⟩ ?_   -- cut 10 end 2
                    refine ⟨_, fun hz q => ?_, fun hz => ?_, rfl⟩
                    · have q1 := q (by omega); simp only [decide_eq_true_eq, Bool.not_eq_true', decide_eq_false_iff_not] at hz; omega
                    · simp only [decide_eq_false_iff_not, Bool.not_eq_false', decide_eq_true_eq] at hz; intro _; omega
                · have h14' := h14; try simp only [decide_eq_true_eq, decide_eq_false_iff_not, Bool.not_eq_true', Bool.not_eq_false', Bool.and_eq_true, Bool.or_eq_true, Bool.and_eq_false_iff, List.length_map, Int.toNat_natCast] at h14'
                  refine ol_skip_g rfl rfl h14 rfl rfl ?_
                  refine ol_skip_g rfl rfl h14 rfl rfl ?_
                  refine ol_pick 108 [(0, _), (3, _), (4, _), (85, _), (87, _)] [(4, _)] rfl ⟨rfl, rfl, rfl, rfl, rfl, trivial⟩ ⟨rfl, trivial⟩ ?_
                  refine ol_skip_g rfl rfl h14 rfl rfl ?_
                  refine ol_skip_g rfl rfl h14 rfl rfl ?_
                  refine ol_skip_u rfl rfl rfl ?_
                  refine ol_skip_u rfl rfl rfl ?_
                  refine ol_skip_u rfl rfl rfl ?_
                  refine ol_skip_g rfl rfl h14 rfl rfl ?_
                  refine ol_pure rfl rfl rfl (pure_pick_f rfl rfl h14 rfl) ?_
                  refine ol_nil ?_
                  refine cut_next (n := 108) (l := [(0, _), (3, _), (4, _), (94, _)]) (o' := [(4, _)]) rfl ⟨rfl, rfl, rfl, rfl, trivial⟩ ⟨rfl, trivial⟩ ?_   -- cut 10 end 3
                  refine ⟨false, fun hz => (by cases hz), fun _ q => ?_, rfl⟩
                  omega
              · rintro zs ⟨z2, hC10_0, hC10_1, rfl⟩
                refine code_cond rfl (fun h16 => ?_) (fun h16 => ?_)
                · try simp only [decide_eq_true_eq, decide_eq_false_iff_not, Bool.not_eq_true', Bool.not_eq_false', Bool.and_eq_true, Bool.or_eq_true, Bool.and_eq_false_iff, List.length_map, Int.toNat_natCast] at h16
                  refine code_seq ?_
                  refine code_ops _ rfl ?_
                  refine ol_pure rfl rfl rfl (pure_assign rfl rfl) ?_
                  refine ol_nil ?_
                  refine seq_pick 108 [(2, _)] [] rfl ⟨rfl, trivial⟩ trivial ?_
                  refine code_ret ?_
                  refine seqQ_ret ?_
                  refine blockQ_ret ?_
                  refine seqQ_ret ?_
                  refine loopM_ret ?_
                  refine blockQ_ret ?_
                  refine seqQ_ret ?_
                  refine end_ret rfl ?_   -- end 4
                  first | (rw [validA_size (by omega)]; done) | (rw [validA_bad1 (i := i) (by omega) (hC8_0 (by assumption))]; done) | (rw [validA_bad2 (i := i) (by omega) (hC10_0 (by assumption))]; done) | (rw [validA_bad3 (i := i) (k := k) (by omega) (by omega) (by simp_all)]; done) | (rw [validA_good (n := i) (by omega) (by omega) hL1_1]; done)
                · try simp only [decide_eq_true_eq, decide_eq_false_iff_not, Bool.not_eq_true', Bool.not_eq_false', Bool.and_eq_true, Bool.or_eq_true, Bool.and_eq_false_iff, List.length_map, Int.toNat_natCast] at h16
                  refine code_skip ?_
                  refine seq_pick 108 [(0, _), (3, _), (4, _)] [(4, _)] rfl ⟨rfl, rfl, rfl, trivial⟩ ⟨rfl, trivial⟩ ?_
                  refine code_seq ?_
                  refine code_ops _ rfl ?_
                  refine ol_pure rfl rfl rfl (pure_assign rfl rfl) ?_
                  refine ol_nil ?_
                  refine seq_pick 108 [(0, _), (3, _), (4, _), (5, _)] [(4, _)] rfl ⟨rfl, rfl, rfl, rfl, trivial⟩ ⟨rfl, trivial⟩ ?_
                  refine code_block ?_
                  refine code_loopM (fun zm zs => ∃ k : Nat, zm = i - k ∧ (k ≤ i) ∧ (∀ j, j < k → (a.getD j default).text ≠ (a.getD i default).text) ∧ zs = ⟨108, [(0, .v .mx (letters a)), (3, .v .pl (int i)), (4, .pbox 4 0), (5, .v .pl (int k))], [(4, .box 48 (lcells .mx (a.getD i default)))]⟩) (loop_init (n := 108) (l := [(0, _), (3, _), (4, _), (5, _)]) (o' := [(4, _)]) rfl ⟨rfl, rfl, rfl, rfl, trivial⟩ ⟨rfl, trivial⟩ ?_) ?_
                  · exact ⟨_, 0, rfl, Nat.zero_le _, fun j hj => absurd hj (by omega), rfl⟩
                  · rintro zm zs ⟨k, rfl, hL2_0, hL2_1, rfl⟩
                    refine code_seq ?_
                    refine code_seq ?_
                    refine code_ops _ rfl ?_
                    refine ol_pure rfl rfl rfl (pure_move rfl rfl) ?_
                    refine ol_pure rfl rfl rfl (pure_move rfl rfl) ?_
                    refine ol_pure rfl rfl rfl (pure_lss rfl rfl rfl) ?_
                    refine ol_nil ?_
                    refine seq_pick 108 [(0, _), (3, _), (4, _), (5, _), (97, _)] [(4, _)] rfl ⟨rfl, rfl, rfl, rfl, rfl, trivial⟩ ⟨rfl, trivial⟩ ?_
                    refine code_cond rfl (fun h17 => ?_) (fun h17 => ?_)
                    · try simp only [decide_eq_true_eq, decide_eq_false_iff_not, Bool.not_eq_true', Bool.not_eq_false', Bool.and_eq_true, Bool.or_eq_true, Bool.and_eq_false_iff, List.length_map, Int.toNat_natCast] at h17
                      refine code_skip ?_
                      refine seq_pick 108 [(0, _), (3, _), (4, _), (5, _)] [(4, _)] rfl ⟨rfl, rfl, rfl, rfl, trivial⟩ ⟨rfl, trivial⟩ ?_
                      refine code_seq ?_
                      refine code_block ?_
                      refine code_seq ?_
                      refine code_draw mixed (by kernel_rfl) _ rfl ?_
                      refine dl_pure rfl rfl rfl (pure_move rfl rfl) ?_
                      refine dl_pure rfl rfl rfl (pure_move rfl rfl) ?_
                      first | refine dl_pure rfl rfl rfl (pure_indexn rfl Try.underlying24 sz48 rfl rfl (by omega) (fun _ => rfl)) ?_ | refine dl_pure rfl rfl rfl (pure_indexm rfl Try.underlying24 sz48 rfl rfl (by omega) (fun _ => rfl)) ?_
                      refine dl_pure rfl rfl rfl (pure_field rfl fd48_0 rfl) ?_
                      refine dl_pure rfl rfl rfl (pure_load rfl ag9 rfl rfl) ?_
                      refine dl_pure rfl rfl rfl (pure_field_box rfl fd48_0 rfl rfl) ?_
                      refine dl_pure rfl rfl rfl (pure_load_box rfl ag9 rfl rfl rfl) ?_
                      refine dl_pure rfl rfl rfl (pure_seql rfl rfl rfl) ?_
                      refine dl_nil ?_
                      refine seq_pick 108 [(0, _), (3, _), (4, _), (5, _), (107, _)] [(4, _)] rfl ⟨rfl, rfl, rfl, rfl, rfl, trivial⟩ ⟨rfl, trivial⟩ ?_
                      refine code_cond rfl (fun h18 => ?_) (fun h18 => ?_)
                      · try simp only [decide_eq_true_eq, decide_eq_false_iff_not, Bool.not_eq_true', Bool.not_eq_false', Bool.and_eq_true, Bool.or_eq_true, Bool.and_eq_false_iff, List.length_map, Int.toNat_natCast] at h18
                        refine code_seq ?_
                        refine code_ops _ rfl ?_
                        refine ol_pure rfl rfl rfl (pure_assign rfl rfl) ?_
                        refine ol_nil ?_
                        refine seq_pick 108 [(2, _)] [] rfl ⟨rfl, trivial⟩ trivial ?_
                        refine code_ret ?_
                        refine blockQ_ret ?_
                        refine seqQ_ret ?_
                        refine loopM_ret ?_
                        refine blockQ_ret ?_
                        refine blockQ_ret ?_
                        refine seqQ_ret ?_
                        refine loopM_ret ?_
                        refine blockQ_ret ?_
                        refine seqQ_ret ?_
                        refine end_ret rfl ?_   -- end 5
                        first | (rw [validA_size (by omega)]; done) | (rw [validA_bad1 (i := i) (by omega) (hC8_0 (by assumption))]; done) | (rw [validA_bad2 (i := i) (by omega) (hC10_0 (by assumption))]; done) | (rw [validA_bad3 (i := i) (k := k) (by omega) (by omega) (by simp_all)]; done) | (rw [validA_good (n := i) (by omega) (by omega) hL1_1]; done)
                      · try simp only [decide_eq_true_eq, decide_eq_false_iff_not, Bool.not_eq_true', Bool.not_eq_false', Bool.and_eq_true, Bool.or_eq_true, Bool.and_eq_false_iff, List.length_map, Int.toNat_natCast] at h18
                        refine code_skip ?_
                        refine blockQ_normal ?_
                        refine seq_pick 108 [(0, _), (3, _), (4, _), (5, _)] [(4, _)] rfl ⟨rfl, rfl, rfl, rfl, trivial⟩ ⟨rfl, trivial⟩ ?_
                        refine code_ops _ rfl ?_
                        refine ol_pure rfl rfl rfl (pure_move rfl rfl) ?_
                        refine ol_pure rfl rfl rfl (pure_addi rfl rfl rfl (by omega)) ?_
                        refine ol_pure rfl rfl rfl (pure_assign rfl rfl) ?_
                        refine ol_nil ?_
                        refine loop_next (n := 108) (l := [(0, _), (3, _), (4, _), (5, _)]) (o' := [(4, _)]) rfl ⟨rfl, rfl, rfl, rfl, trivial⟩ ⟨rfl, trivial⟩ ?_   -- loop 2 end 1
                        exact ⟨_, ⟨k + 1, rfl, by omega, lt_step hL2_1 (fun e => by simp_all), rfl⟩, by omega⟩
                    · try simp only [decide_eq_true_eq, decide_eq_false_iff_not, Bool.not_eq_true', Bool.not_eq_false', Bool.and_eq_true, Bool.or_eq_true, Bool.and_eq_false_iff, List.length_map, Int.toNat_natCast] at h17
                      refine code_exit ?_
                      refine seqQ_exit ?_
                      refine loopM_exit ?_
                      refine blockQ_same ?_
                      refine blockQ_normal ?_
                      refine seq_pick 108 [(0, _), (3, _)] [] rfl ⟨rfl, rfl, trivial⟩ trivial ?_
                      refine code_ops _ rfl ?_
                      refine ol_pure rfl rfl rfl (pure_move rfl rfl) ?_
                      refine ol_pure rfl rfl rfl (pure_addi rfl rfl rfl (by omega)) ?_
                      refine ol_pure rfl rfl rfl (pure_assign rfl rfl) ?_
                      refine ol_nil ?_
                      refine loop_next (n := 108) (l := [(0, _), (3, _)]) (o' := []) rfl ⟨rfl, rfl, trivial⟩ trivial ?_   -- loop 1 end 1
                      exact ⟨_, ⟨i + 1, rfl, by omega, okP_step (by omega) hL1_1 (hC8_1 (by assumption)) (hC10_1 (by assumption)) hL2_1, rfl⟩, by omega⟩
        · try simp only [decide_eq_true_eq, decide_eq_false_iff_not, Bool.not_eq_true', Bool.not_eq_false', Bool.and_eq_true, Bool.or_eq_true, Bool.and_eq_false_iff, List.length_map, Int.toNat_natCast] at h3
          refine code_exit ?_
          refine seqQ_exit ?_
          refine loopM_exit ?_
          refine blockQ_same ?_
          refine seq_pick 108 [] [] rfl trivial trivial ?_
          refine code_seq ?_
          refine code_ops _ rfl ?_
          refine ol_pure rfl rfl rfl (pure_assign rfl rfl) ?_
          refine ol_nil ?_
          refine seq_pick 108 [(2, _)] [] rfl ⟨rfl, trivial⟩ trivial ?_
          refine code_ret ?_
          refine end_ret rfl ?_   -- end 6
          first | (rw [validA_size (by omega)]; done) | (rw [validA_bad1 (i := i) (by omega) (hC8_0 (by assumption))]; done) | (rw [validA_bad2 (i := i) (by omega) (hC10_0 (by assumption))]; done) | (rw [validA_bad3 (i := i) (k := k) (by omega) (by omega) (by simp_all)]; done) | (rw [validA_good (n := i) (by omega) (by omega) hL1_1]; done)
end Go.Proofs.Ytcimmcjnkphagaa
