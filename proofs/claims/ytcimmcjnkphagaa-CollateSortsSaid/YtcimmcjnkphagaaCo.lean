/-
  Contract of the reference's Sort.
-/
import Derived.Test.YtcimmcjnkphagaaCe
import Derived.Test.YtcimmcjnkphagaaPk
namespace Go.Proofs.Ytcimmcjnkphagaa
open Go.Am Go.Wb
set_option linter.unusedVariables false
set_option linter.unusedSimpArgs false
theorem fn29 : Fn1 Try.prog 29 Try.f29.ntmps 4 (Try.f29.body.getD .skip) := ⟨Try.f29, Try.func29, rfl, rfl, rfl, by kernel_rfl⟩
set_option maxRecDepth 100000 in
set_option maxHeartbeats 4000000 in
theorem rsort_call {a : List Letter} {l : List (List Int)} (ha : a.length ≤ 1099511627776) (ht : ∀ x ∈ a, x.text.length ≤ 1099511627776) (hl : l.length ≤ 1099511627776) (hll : shortL l) :
    CallF Try.prog 29 [letters a, intss l] (.fresh 3 ((sortP a l).map int)) := by
  refine callF_of_code fn29 (Nat.le_of_ble_eq_true rfl) fun w0 M0 hM0 => ?_
  refine code_seq ?_
  refine code_ops _ rfl ?_
  refine ol_step rfl (step_nil rfl rfl rfl rfl rfl 3 hM0) ?_
  refine ol_nil ?_
  refine seq_pick 58 [(0, _), (1, _)] [] rfl ⟨rfl, rfl, trivial⟩ trivial ?_
  refine code_seq ?_
  refine code_ops _ rfl ?_
  refine ol_step rfl (step_nil rfl rfl rfl rfl rfl 3 hM0) ?_
  refine ol_nil ?_
  refine seq_pick 58 [(0, _), (1, _), (5, _)] [(5, _)] rfl ⟨rfl, rfl, rfl, trivial⟩ ⟨rfl, trivial⟩ ?_
  refine code_seq ?_
  refine code_seq ?_
  refine code_ops _ rfl ?_
  refine ol_pure rfl rfl rfl (pure_move rfl rfl) ?_
  refine ol_pure rfl rfl rfl (pure_call rfl rfl rfl (rvalid_call (by assumption) (by assumption)) hM0) ?_
  refine ol_pure rfl rfl rfl (pure_not rfl rfl) ?_
  refine ol_nil ?_
  refine seq_pick 58 [(0, _), (1, _), (5, _), (10, _)] [(5, _)] rfl ⟨rfl, rfl, rfl, rfl, trivial⟩ ⟨rfl, trivial⟩ ?_
  refine code_cond rfl (fun h1 => ?_) (fun h1 => ?_)
  · try simp only [decide_eq_true_eq, decide_eq_false_iff_not, Bool.not_eq_true', Bool.not_eq_false', Bool.and_eq_true, Bool.or_eq_true, Bool.and_eq_false_iff, List.length_map, Int.toNat_natCast] at h1
    refine code_seq ?_
    refine code_ops _ rfl ?_
    refine ol_pure rfl rfl rfl (pure_move rfl rfl) ?_
    refine ol_pure rfl rfl rfl (pure_assign rfl rfl) ?_
    refine ol_nil ?_
    refine seq_pick 58 [(4, _)] [(5, _)] rfl ⟨rfl, trivial⟩ ⟨rfl, trivial⟩ ?_
    refine code_ret ?_
    refine seqQ_ret ?_
    refine end_ret rfl ?_   -- end 1
    unfold sortP; rw [if_neg (by simp_all)]; rfl
  · try simp only [decide_eq_true_eq, decide_eq_false_iff_not, Bool.not_eq_true', Bool.not_eq_false', Bool.and_eq_true, Bool.or_eq_true, Bool.and_eq_false_iff, List.length_map, Int.toNat_natCast] at h1
    refine code_skip ?_
    refine seq_pick 58 [(0, _), (1, _), (5, _)] [(5, _)] rfl ⟨rfl, rfl, rfl, trivial⟩ ⟨rfl, trivial⟩ ?_
    refine code_seq ?_
    refine code_seq ?_
    refine code_ops _ rfl ?_
    refine ol_pure rfl rfl rfl (pure_assign rfl rfl) ?_
    refine ol_nil ?_
    refine seq_pick 58 [(0, _), (1, _), (5, _), (6, _)] [(5, _)] rfl ⟨rfl, rfl, rfl, rfl, trivial⟩ ⟨rfl, trivial⟩ ?_
    refine code_block ?_
    refine code_loopM (fun zm zs => ∃ i : Nat, zm = l.length - i ∧ (i ≤ l.length) ∧ zs = ⟨58, [(0, .v .mx (letters a)), (1, .v .mx (intss l)), (5, .own 5), (6, .v .pl (int i))], [(5, .arr 3 ((sortN a l i).map int))]⟩) (loop_init (n := 58) (l := [(0, _), (1, _), (5, _), (6, _)]) (o' := [(5, _)]) rfl ⟨rfl, rfl, rfl, rfl, trivial⟩ ⟨rfl, trivial⟩ ?_) ?_
    · exact ⟨_, 0, rfl, Nat.zero_le _, rfl⟩
    · rintro zm zs ⟨i, rfl, hL1_0, rfl⟩
      have hlen := sortN_len a l i
      refine code_seq ?_
      refine code_seq ?_
      refine code_ops _ rfl ?_
      refine ol_pure rfl rfl rfl (pure_move rfl rfl) ?_
      refine ol_pure rfl rfl rfl (pure_move rfl rfl) ?_
      refine ol_pure rfl rfl rfl (pure_lenm rfl Try.underlying23 rfl) ?_
      refine ol_pure rfl rfl rfl (pure_lss rfl rfl rfl) ?_
      refine ol_nil ?_
      refine seq_pick 58 [(0, _), (1, _), (5, _), (6, _), (15, _)] [(5, _)] rfl ⟨rfl, rfl, rfl, rfl, rfl, trivial⟩ ⟨rfl, trivial⟩ ?_
      refine code_cond rfl (fun h2 => ?_) (fun h2 => ?_)
      · try simp only [decide_eq_true_eq, decide_eq_false_iff_not, Bool.not_eq_true', Bool.not_eq_false', Bool.and_eq_true, Bool.or_eq_true, Bool.and_eq_false_iff, List.length_map, Int.toNat_natCast] at h2
        refine code_skip ?_
        refine seq_pick 58 [(0, _), (1, _), (5, _), (6, _)] [(5, _)] rfl ⟨rfl, rfl, rfl, rfl, trivial⟩ ⟨rfl, trivial⟩ ?_
        refine code_seq ?_
        refine code_block ?_
        refine code_seq ?_
        refine code_ops _ rfl ?_
        refine ol_pure rfl rfl rfl (pure_move rfl rfl) ?_
        refine ol_pure rfl rfl rfl (pure_lenm rfl Try.underlying22 rfl) ?_
        refine ol_pure rfl rfl rfl (pure_assign rfl rfl) ?_
        refine ol_nil ?_
        refine seq_pick 58 [(0, _), (1, _), (5, _), (6, _), (7, _)] [(5, _)] rfl ⟨rfl, rfl, rfl, rfl, rfl, trivial⟩ ⟨rfl, trivial⟩ ?_
        refine code_seq ?_
        refine code_ops _ rfl ?_
        refine ol_pure rfl rfl rfl (pure_move rfl rfl) ?_
        refine ol_pure rfl rfl rfl (pure_move rfl rfl) ?_
        refine ol_pure rfl rfl rfl (pure_lit rfl Try.underlying22 el3 rfl rfl rfl rfl hM0) ?_
        refine ol_step rfl (step_append rfl rfl rfl rfl Try.underlying22 el3 rfl rfl hM0 (src_pl rfl (one_len (by rfl))) (by simp only [List.length_map, List.length_cons, List.length_nil]; have := sortN_len a l i; omega) (by simp only [List.length_map, List.length_cons, List.length_nil]; have := sortN_len a l i; omega)) ?_
        refine ol_pure rfl rfl rfl (pure_assign rfl rfl) ?_
        refine ol_nil ?_
        refine seq_pick 58 [(0, _), (1, _), (5, _), (6, _), (7, _)] [(5, _)] rfl ⟨rfl, rfl, rfl, rfl, rfl, trivial⟩ ⟨rfl, trivial⟩ ?_
        refine code_cut (fun zs => ∃ (k : Nat) (g : Int), (k ≤ i) ∧ (posR (fun x => gtW a l x i) (sortN a l i) i = k) ∧ zs = ⟨58, [(0, .v .mx (letters a)), (1, .v .mx (intss l)), (5, .own 5), (6, .v .pl (int i)), (7, .v .pl (int k))], [(5, .arr 3 (((sortN a l i).take k ++ g :: (sortN a l i).drop k).map int))]⟩) ?_ ?_
        · skip
          refine code_block ?_
          refine code_loopM (fun zm zs => ∃ (k : Nat) (g : Int), zm = 0 + k ∧ (k ≤ i) ∧ (posR (fun x => gtW a l x i) (sortN a l i) i = posR (fun x => gtW a l x i) (sortN a l i) k) ∧ zs = ⟨58, [(0, .v .mx (letters a)), (1, .v .mx (intss l)), (5, .own 5), (6, .v .pl (int i)), (7, .v .pl (int k))], [(5, .arr 3 (((sortN a l i).take k ++ g :: (sortN a l i).drop k).map int))]⟩) (loop_init (n := 58) (l := [(0, _), (1, _), (5, _), (6, _), (7, _)]) (o' := [(5, _)]) rfl ⟨rfl, rfl, rfl, rfl, rfl, trivial⟩ ⟨rfl, trivial⟩ ?_) ?_
          · refine ⟨_, i, (i : Int), rfl, Nat.le_refl _, rfl, ?_⟩
            rw [List.take_of_length_le (by omega), List.drop_of_length_le (by omega), List.map_append, hlen]
            rfl
          · rintro zm zs ⟨k, g, rfl, hL2_0, hL2_1, rfl⟩
            refine code_seq ?_
            refine code_seq ?_
            refine code_draw mixed (by kernel_rfl) _ rfl ?_
            refine dl_pure rfl rfl rfl (pure_move rfl rfl) ?_
            refine dl_pure rfl rfl rfl (pure_gtr rfl rfl rfl) ?_
            refine dl_pure rfl rfl rfl (pure_move rfl rfl) ?_
            refine dl_guard rfl (fun h3 => ?_) (fun h3 => ?_)
            · have h3' := h3; try simp only [decide_eq_true_eq, decide_eq_false_iff_not, Bool.not_eq_true', Bool.not_eq_false', Bool.and_eq_true, Bool.or_eq_true, Bool.and_eq_false_iff, List.length_map, Int.toNat_natCast] at h3'
              refine dl_pure_g rfl rfl h3 rfl rfl (pure_move rfl rfl) ?_
              refine dl_pure_g rfl rfl h3 rfl rfl (pure_move rfl rfl) ?_
              refine dl_pure_g rfl rfl h3 rfl rfl (pure_move rfl rfl) ?_
              refine dl_pure_g rfl rfl h3 rfl rfl (pure_move rfl rfl) ?_
              refine dl_pick 58 [(0, _), (1, _), (5, _), (6, _), (7, _), (26, _), (27, _), (28, _), (29, _), (30, _)] [(5, _)] rfl rfl ⟨rfl, rfl, rfl, rfl, rfl, rfl, rfl, rfl, rfl, rfl, trivial⟩ ?_
              refine dl_pure_g rfl rfl h3 rfl rfl (pure_subi rfl rfl rfl (by omega)) ?_
              refine dl_pure_g rfl rfl h3 rfl rfl (pure_index_own rfl Try.underlying22 sz3 rfl rfl rfl (by simp only [List.length_map, List.length_append, List.length_cons, List.length_take, List.length_drop]; omega)) ?_
              refine dl_pure_g rfl rfl h3 rfl rfl (pure_load_pel rfl ag3 rfl rfl (mget (by simp only [List.length_append, List.length_cons, List.length_take, List.length_drop]; omega)) rfl) ?_
              first | refine dl_pure_g rfl rfl h3 rfl rfl (pure_indexn rfl Try.underlying23 sz22 rfl rfl (by rw [sh_get (by omega) (by omega)]; have := sortN_bd a l (i := i) (k := k - 1) (by omega); omega) (fun _ => rfl)) ?_ | refine dl_pure_g rfl rfl h3 rfl rfl (pure_indexm rfl Try.underlying23 sz22 rfl rfl (by rw [sh_get (by omega) (by omega)]; have := sortN_bd a l (i := i) (k := k - 1) (by omega); omega) (fun _ => rfl)) ?_
              refine dl_pure_g rfl rfl h3 rfl rfl (pure_load rfl ag22 rfl rfl) ?_
              refine dl_pure_g rfl rfl h3 rfl rfl (pure_move rfl rfl) ?_
              refine dl_pure_g rfl rfl h3 rfl rfl (pure_move rfl rfl) ?_
              refine dl_pick 58 [(0, _), (1, _), (5, _), (6, _), (7, _), (26, _), (27, _), (35, _), (36, _), (37, _)] [(5, _)] rfl rfl ⟨rfl, rfl, rfl, rfl, rfl, rfl, rfl, rfl, rfl, rfl, trivial⟩ ?_
              first | refine dl_pure_g rfl rfl h3 rfl rfl (pure_indexn rfl Try.underlying23 sz22 rfl rfl (by omega) (fun _ => rfl)) ?_ | refine dl_pure_g rfl rfl h3 rfl rfl (pure_indexm rfl Try.underlying23 sz22 rfl rfl (by omega) (fun _ => rfl)) ?_
              refine dl_pure_g rfl rfl h3 rfl rfl (pure_load rfl ag22 rfl rfl) ?_
              refine dl_pure_g rfl rfl h3 rfl rfl (pure_call rfl rfl rfl (upto_call (by assumption) (by first | assumption | exact shortL.get (by assumption) _) (by first | assumption | exact shortL.get (by assumption) _) (by omega)) hM0) ?_
              refine dl_pure_g rfl rfl h3 rfl rfl (pure_gtr rfl rfl rfl) ?_
              refine dl_pure rfl rfl rfl (pure_pick_t rfl rfl h3 rfl) ?_
              refine dl_nil ?_
              refine seq_pick 58 [(0, _), (1, _), (5, _), (6, _), (7, _), (42, _)] [(5, _)] rfl ⟨rfl, rfl, rfl, rfl, rfl, rfl, trivial⟩ ⟨rfl, trivial⟩ ?_
              refine code_cond rfl (fun h4 => ?_) (fun h4 => ?_)
              · try simp only [decide_eq_true_eq, decide_eq_false_iff_not, Bool.not_eq_true', Bool.not_eq_false', Bool.and_eq_true, Bool.or_eq_true, Bool.and_eq_false_iff, List.length_map, Int.toNat_natCast] at h4
                refine code_skip ?_
                refine seq_pick 58 [(0, _), (1, _), (5, _), (6, _), (7, _)] [(5, _)] rfl ⟨rfl, rfl, rfl, rfl, rfl, trivial⟩ ⟨rfl, trivial⟩ ?_
                refine code_block ?_
                refine code_seq ?_
                refine code_ops _ rfl ?_
                refine ol_pure rfl rfl rfl (pure_move rfl rfl) ?_
                refine ol_pure rfl rfl rfl (pure_move rfl rfl) ?_
                refine ol_pure rfl rfl rfl (pure_move rfl rfl) ?_
                refine ol_pure rfl rfl rfl (pure_move rfl rfl) ?_
                refine ol_pure rfl rfl rfl (pure_subi rfl rfl rfl (by omega)) ?_
                refine ol_pure rfl rfl rfl (pure_index_own rfl Try.underlying22 sz3 rfl rfl rfl (by simp only [List.length_map, List.length_append, List.length_cons, List.length_take, List.length_drop]; omega)) ?_
                refine ol_pure rfl rfl rfl (pure_load_pel rfl ag3 rfl rfl (mget (by simp only [List.length_append, List.length_cons, List.length_take, List.length_drop]; omega)) rfl) ?_
                refine ol_pure rfl rfl rfl (pure_index_own rfl Try.underlying22 sz3 rfl rfl rfl (by simp only [List.length_map, List.length_append, List.length_cons, List.length_take, List.length_drop]; omega)) ?_
                refine ol_step rfl (step_store_pel rfl rfl rfl sz3 rfl rfl (mget (by simp only [List.length_append, List.length_cons, List.length_take, List.length_drop]; omega)) rfl rfl (.inl rfl) rfl (Nat.le_of_ble_eq_true rfl) hM0) ?_
                refine ol_nil ?_
                refine seq_pick 58 [(0, _), (1, _), (5, _), (6, _), (7, _)] [(5, _)] rfl ⟨rfl, rfl, rfl, rfl, rfl, trivial⟩ ⟨rfl, trivial⟩ ?_
                refine code_ops _ rfl ?_
                refine ol_pure rfl rfl rfl (pure_move rfl rfl) ?_
                refine ol_pure rfl rfl rfl (pure_subi rfl rfl rfl (by omega)) ?_
                refine ol_pure rfl rfl rfl (pure_assign rfl rfl) ?_
                refine ol_nil ?_
                refine blockQ_normal ?_
                refine loop_next (n := 58) (l := [(0, _), (1, _), (5, _), (6, _), (7, _)]) (o' := [(5, _)]) rfl ⟨rfl, rfl, rfl, rfl, rfl, trivial⟩ ⟨rfl, trivial⟩ ?_   -- loop 2 end 1
                have hc : ((k - 1 : Nat) : Int) = (k : Int) - 1 := by omega
                have hgt := h4
                rw [sh_get (by omega) (by omega)] at hgt
                refine ⟨0 + (k - 1), ⟨k - 1, (sortN a l i).getD (k - 1) default, rfl, by omega, ?_, ?_⟩, by omega⟩
                · rw [hL2_1, posR_step (by omega) (decide_eq_true hgt)]
                · have e := sh_set (s := sortN a l i) (g := g) (v := (sortN a l i).getD (k - 1) default) (k := k) (by omega)
                  rw [hc, sh_get (s := sortN a l i) (g := g) (k := k) (by omega) (by omega), ← sh_step (s := sortN a l i) (k := k) (by omega) (by omega), ← e]
                  rfl
              · try simp only [decide_eq_true_eq, decide_eq_false_iff_not, Bool.not_eq_true', Bool.not_eq_false', Bool.and_eq_true, Bool.or_eq_true, Bool.and_eq_false_iff, List.length_map, Int.toNat_natCast] at h4
                refine code_exit ?_
                refine seqQ_exit ?_
                refine loopM_exit ?_
                refine blockQ_same ?_
                refine cut_next (n := 58) (l := [(0, _), (1, _), (5, _), (6, _), (7, _)]) (o' := [(5, _)]) rfl ⟨rfl, rfl, rfl, rfl, rfl, trivial⟩ ⟨rfl, trivial⟩ ?_   -- cut 12 end 1
                refine ⟨k, g, by omega, ?_, rfl⟩
                rw [hL2_1, posR_stop]
                first | exact .inl (by omega) | (refine .inr (decide_eq_false ?_); rw [sh_get (by omega) (by omega)] at *; assumption)
            · have h3' := h3; try simp only [decide_eq_true_eq, decide_eq_false_iff_not, Bool.not_eq_true', Bool.not_eq_false', Bool.and_eq_true, Bool.or_eq_true, Bool.and_eq_false_iff, List.length_map, Int.toNat_natCast] at h3'
              refine dl_skip_g rfl rfl h3 rfl rfl ?_
              refine dl_skip_g rfl rfl h3 rfl rfl ?_
              refine dl_skip_g rfl rfl h3 rfl rfl ?_
              refine dl_skip_g rfl rfl h3 rfl rfl ?_
              refine dl_pick 58 [(0, _), (1, _), (5, _), (6, _), (7, _), (26, _), (27, _), (28, _), (29, _), (30, _)] [(5, _)] rfl rfl ⟨rfl, rfl, rfl, rfl, rfl, rfl, rfl, rfl, rfl, rfl, trivial⟩ ?_
              refine dl_skip_g rfl rfl h3 rfl rfl ?_
              refine dl_skip_g rfl rfl h3 rfl rfl ?_
              refine dl_skip_g rfl rfl h3 rfl rfl ?_
              refine dl_skip_g rfl rfl h3 rfl rfl ?_
              refine dl_skip_g rfl rfl h3 rfl rfl ?_
              refine dl_skip_g rfl rfl h3 rfl rfl ?_
              refine dl_skip_g rfl rfl h3 rfl rfl ?_
              refine dl_pick 58 [(0, _), (1, _), (5, _), (6, _), (7, _), (26, _), (27, _), (35, _), (36, _), (37, _)] [(5, _)] rfl rfl ⟨rfl, rfl, rfl, rfl, rfl, rfl, rfl, rfl, rfl, rfl, trivial⟩ ?_
              refine dl_skip_g rfl rfl h3 rfl rfl ?_
              refine dl_skip_g rfl rfl h3 rfl rfl ?_
              refine dl_skip_g rfl rfl h3 rfl rfl ?_
              refine dl_skip_g rfl rfl h3 rfl rfl ?_
              refine dl_pure rfl rfl rfl (pure_pick_f rfl rfl h3 rfl) ?_
              refine dl_nil ?_
              refine seq_pick 58 [(0, _), (1, _), (5, _), (6, _), (7, _), (42, _)] [(5, _)] rfl ⟨rfl, rfl, rfl, rfl, rfl, rfl, trivial⟩ ⟨rfl, trivial⟩ ?_
              refine code_cond_f rfl ?_
              refine code_exit ?_
              refine seqQ_exit ?_
              refine loopM_exit ?_
              refine blockQ_same ?_
              refine cut_next (n := 58) (l := [(0, _), (1, _), (5, _), (6, _), (7, _)]) (o' := [(5, _)]) rfl ⟨rfl, rfl, rfl, rfl, rfl, trivial⟩ ⟨rfl, trivial⟩ ?_   -- cut 12 end 2
              refine ⟨k, g, by omega, ?_, rfl⟩
              rw [hL2_1, posR_stop]
              first | exact .inl (by omega) | (refine .inr (decide_eq_false ?_); rw [sh_get (by omega) (by omega)] at *; assumption)
        · rintro zs ⟨k, g, hC12_0, hC12_1, rfl⟩
          refine code_ops _ rfl ?_
          refine ol_pure rfl rfl rfl (pure_move rfl rfl) ?_
          refine ol_pure rfl rfl rfl (pure_move rfl rfl) ?_
          refine ol_pure rfl rfl rfl (pure_move rfl rfl) ?_
          refine ol_pure rfl rfl rfl (pure_index_own rfl Try.underlying22 sz3 rfl rfl rfl (by simp only [List.length_map, List.length_append, List.length_cons, List.length_take, List.length_drop]; omega)) ?_
          refine ol_step rfl (step_store_pel rfl rfl rfl sz3 rfl rfl (mget (by simp only [List.length_append, List.length_cons, List.length_take, List.length_drop]; omega)) rfl rfl (.inl rfl) rfl (Nat.le_of_ble_eq_true rfl) hM0) ?_
          refine ol_nil ?_
          refine blockQ_normal ?_
          refine seq_pick 58 [(0, _), (1, _), (5, _), (6, _)] [(5, _)] rfl ⟨rfl, rfl, rfl, rfl, trivial⟩ ⟨rfl, trivial⟩ ?_
          refine code_ops _ rfl ?_
          refine ol_pure rfl rfl rfl (pure_move rfl rfl) ?_
          refine ol_pure rfl rfl rfl (pure_addi rfl rfl rfl (by omega)) ?_
          refine ol_pure rfl rfl rfl (pure_assign rfl rfl) ?_
          refine ol_nil ?_
          refine loop_next (n := 58) (l := [(0, _), (1, _), (5, _), (6, _)]) (o' := [(5, _)]) rfl ⟨rfl, rfl, rfl, rfl, trivial⟩ ⟨rfl, trivial⟩ ?_   -- loop 1 end 1
          refine ⟨_, ⟨i + 1, rfl, by omega, ?_⟩, by omega⟩
          have e := sh_set (s := sortN a l i) (g := g) (v := (i : Int)) (k := k) (by omega)
          rw [sortN, insAt, hlen, hC12_1, ← e]
          rfl
      · try simp only [decide_eq_true_eq, decide_eq_false_iff_not, Bool.not_eq_true', Bool.not_eq_false', Bool.and_eq_true, Bool.or_eq_true, Bool.and_eq_false_iff, List.length_map, Int.toNat_natCast] at h2
        refine code_exit ?_
        refine seqQ_exit ?_
        refine loopM_exit ?_
        refine blockQ_same ?_
        refine seq_pick 58 [(5, _)] [(5, _)] rfl ⟨rfl, trivial⟩ ⟨rfl, trivial⟩ ?_
        refine code_seq ?_
        refine code_ops _ rfl ?_
        refine ol_pure rfl rfl rfl (pure_move rfl rfl) ?_
        refine ol_pure rfl rfl rfl (pure_assign rfl rfl) ?_
        refine ol_nil ?_
        refine seq_pick 58 [(4, _)] [(5, _)] rfl ⟨rfl, trivial⟩ ⟨rfl, trivial⟩ ?_
        refine code_ret ?_
        refine end_ret rfl ?_   -- end 2
        unfold sortP; rw [if_pos (by simpa using h1), show i = l.length by omega]
end Go.Proofs.Ytcimmcjnkphagaa
