/-
  Contracts: reading an expression out of tokens.
-/
import Derived.Test.YtgdehkimfmfofaaGreatJ28
import Derived.Test.YtgdehkimfmfofaaGreatJ29
import Derived.Test.YtgdehkimfmfofaaGreatJ17
import Derived.Test.YtgdehkimfmfofaaGreatJ18
set_option linter.unusedVariables false
set_option linter.unusedSimpArgs false
namespace Go.Proofs.YtgdehkimfmfofaaGreat
open Go.Am Go.Wb
set_option linter.unusedVariables false
set_option linter.unusedSimpArgs false
abbrev psO (s : PS) : List (Nat × Ob) := [(1000001, .box 73 [.v .pl (toks s.l), .v .pl (int s.bad)])]
theorem fn61 : Fn0 Tryz.prog 61 Tryz.f61.ntmps (Tryz.f61.body.getD .skip) := ⟨Tryz.f61, Tryz.func61, rfl, rfl, rfl, by kernel_rfl⟩
set_option maxRecDepth 100000 in
theorem fail_call {s : PS} (h0 : 0 < s.l.length) : CallO Tryz.prog 61 [.pbox 1000001 0] (psO s) (.v .pl (.tup [])) (psO s.fail) := by
  refine callO_of_code0 fn61 (Nat.le_of_ble_eq_true rfl) fun w0 M0 hM0 => ?_
  refine code_seq ?_
  refine code_ops _ rfl ?_
  refine ol_pure rfl rfl rfl (pure_move rfl rfl) ?_
  refine ol_pure rfl rfl rfl (pure_nilbox rfl rfl rfl) ?_
  refine ol_pure rfl rfl rfl (pure_field_box rfl fd73_1 rfl rfl) ?_
  refine ol_pure rfl rfl rfl (pure_load_box rfl ag3 rfl rfl rfl) ?_
  refine ol_pure rfl rfl rfl (pure_lss rfl rfl rfl) ?_
  refine ol_nil ?_
  refine spk 17 [(0,_),(6,_)] [(1000001,_)] rfl rfl rfl ?_
  refine code_cond rfl (fun h1 => ?_) (fun h1 => ?_)
  ·try simp only [dq] at h1
   refine code_ops _ rfl ?_
   refine ol_pure rfl rfl rfl (pure_move rfl rfl) ?_
   refine ol_pure rfl rfl rfl (pure_move rfl rfl) ?_
   refine ol_pure rfl rfl rfl (pure_nilbox rfl rfl rfl) ?_
   refine ol_pure rfl rfl rfl (pure_field_box rfl fd73_0 rfl rfl) ?_
   refine ol_pure rfl rfl rfl (pure_load_box rfl ag70 rfl rfl rfl) ?_
   first | refine ol_pure rfl rfl rfl (pure_indexn rfl Tryz.underlying70 sz76 rfl rfl (by omega) (fun _ => rfl)) ?_ | refine ol_pure rfl rfl rfl (pure_indexm rfl Tryz.underlying70 sz76 rfl rfl (by omega) (fun _ => rfl)) ?_
   refine ol_pure rfl rfl rfl (pure_field rfl fd76_2 rfl) ?_
   refine opk 17 [(7,_),(13,_)] [(1000001,_)] rfl rfl rfl ?_
   refine ol_pure rfl rfl rfl (pure_load rfl ag3 rfl rfl) ?_
   refine ol_pure rfl rfl rfl (pure_nilbox rfl rfl rfl) ?_
   refine ol_pure rfl rfl rfl (pure_field_box rfl fd73_1 rfl rfl) ?_
   refine ol_step rfl (step_store_box rfl rfl rfl sz3 rfl rfl rfl rfl (by decide) rfl rfl hM0) ?_
   refine ol_nil ?_
   refine endO0_normal (o1 := [(1000001, _)]) ⟨rfl, trivial⟩ ?_
   first
     | (unfold PS.fail; rw [if_pos (by omega)]; first | done | rfl)
     | (unfold PS.fail; rw [if_neg (by omega)]; first | done | rfl)
  ·try simp only [dq] at h1
   refine code_skip ?_
   refine endO0_normal (o1 := [(1000001, _)]) ⟨rfl, trivial⟩ ?_
   first
     | (unfold PS.fail; rw [if_pos (by omega)]; first | done | rfl)
     | (unfold PS.fail; rw [if_neg (by omega)]; first | done | rfl)
abbrev PostC (n : Nat) : Prop := ∀ s : PS, s.l.length ≤ n → endT s.l → (s.hd = 97 ∨ s.hd = 40) → s.bad < 0 → TokOk s.l → wtT s.l ≤ 274877906944 →
  CallO Tryz.prog 124 [.pbox 1000001 0] (psO s) (.v .pl (rx (pPost n s).1)) (psO (pPost n s).2)
abbrev SeqC (n : Nat) : Prop := ∀ s : PS, s.l.length ≤ n → endT s.l → TokOk s.l → wtT s.l ≤ 274877906944 →
  CallO Tryz.prog 94 [.pbox 1000001 0] (psO s) (.v .pl (rx (pSeq (pPost n) s).1)) (psO (pSeq (pPost n) s).2)
abbrev AltC (n : Nat) : Prop := ∀ s : PS, s.l.length ≤ n → endT s.l → TokOk s.l → wtT s.l ≤ 274877906944 →
  CallO Tryz.prog 60 [.pbox 1000001 0] (psO s) (.v .pl (rx (pAlt (pSeq (pPost n)) s).1)) (psO (pAlt (pSeq (pPost n)) s).2)
theorem fn94 : FnC Tryz.prog 94 Tryz.f94.ntmps 2 25 3 (Tryz.f94.body.getD .skip) := ⟨Tryz.f94, Tryz.func94, rfl, rfl, rfl, by kernel_rfl, ag25, sz25⟩
set_option maxRecDepth 100000 in
set_option maxHeartbeats 4000000 in
theorem pseq_call {n : Nat} (hP : PostC n) : SeqC n := by
  intro s hn he ha hw
  refine callO_of_codeC fn94 (Nat.le_of_ble_eq_true rfl) fun w0 M0 hM0 => ?_
  refine code_seq ?_
  refine code_ops _ rfl ?_
  refine ol_step rfl (step_alloc rfl rfl rfl rfl rfl ze25 rfl hM0) ?_
  refine ol_nil ?_
  refine spk 36 [(0,_),(2,_)] [(2,_),(1000001,_)] rfl rfl rfl ?_
  refine code_seq ?_
  refine code_ops _ rfl ?_
  refine ol_step rfl (step_nil rfl rfl rfl rfl rfl 25 hM0) ?_
  refine ol_nil ?_
  refine spk 36 [(0,_),(2,_),(3,_)] [(2,_),(3,_),(1000001,_)] rfl rfl rfl ?_
  refine code_seq ?_
  refine code_block ?_
  refine code_loopM (fun zm zs => ∃ (z : PS) (k : Nat) (acc : List Rx), zm = z.l.length ∧ (endT z.l ∧ z.l.length ≤ k ∧ z.l.length ≤ n ∧ TokOk z.l) ∧ (Rx.sizes acc + wtT z.l ≤ wtT s.l) ∧ ((acc ++ (seqLp (pPost n) k z).1, (seqLp (pPost n) k z).2) = seqLp (pPost n) s.l.length s) ∧ zs = ⟨36, [(0, .pbox 1000001 0), (2, .pbox 2 0), (3, .own 3)], [(2, .box 25 [.v .pl (.sc (.int .i64 0)), .v .pl (.sc (.slice none 0 0)), .v .pl (.sc (.slice none 0 0))]), (3, .arr 25 (acc.map rx)), (1000001, .box 73 [.v .pl (toks (z).l), .v .pl (int (z).bad)])]⟩) (loop_init (n := 36) (l := [(0, _), (2, _), (3, _)]) (o' := [(2, _), (3, _), (1000001, _)]) rfl ⟨rfl, rfl, rfl, trivial⟩ ⟨rfl, rfl, rfl, trivial⟩ ?_) ?_
  ·exact ⟨_, s, s.l.length, [], rfl, ⟨he, Nat.le_refl _, hn, ha⟩, by rw [show Rx.sizes [] = 0 from rfl]; omega, rfl, rfl⟩
  ·rintro zm zs ⟨z, k, acc, rfl, hL1_0, hL1_1, hL1_2, rfl⟩
   obtain ⟨hz1, hz2, hz3, hz4⟩ := hL1_0
   have hz0 := hz1.1
   have hpo := fun h => pPost_ok n z hz3 hz1 h hz4
   have hsl := sizes_len acc
   refine code_seq ?_
   refine code_seq ?_
   refine code_ops _ rfl ?_
   refine ol_pure rfl rfl rfl (pure_move rfl rfl) ?_
   refine ol_pure rfl rfl rfl (pure_nilbox rfl rfl rfl) ?_
   refine ol_pure rfl rfl rfl (pure_field_box rfl fd73_1 rfl rfl) ?_
   refine ol_pure rfl rfl rfl (pure_load_box rfl ag3 rfl rfl rfl) ?_
   refine ol_pure rfl rfl rfl (pure_lss rfl rfl rfl) ?_
   refine ol_pure rfl rfl rfl (pure_move rfl rfl) ?_
   refine ol_guard rfl (fun h1 => ?_) (fun h1 => ?_)
   ·have h1' := h1; try simp only [dq] at h1'
    refine ol_pure_g rfl rfl h1 rfl rfl (pure_move rfl rfl) ?_
    refine opk 36 [(0,_),(2,_),(3,_),(9,_),(10,_)] [(2,_),(3,_),(1000001,_)] rfl rfl rfl ?_
    refine ol_pure_g rfl rfl h1 rfl rfl (pure_nilbox rfl rfl rfl) ?_
    refine ol_pure_g rfl rfl h1 rfl rfl (pure_field_box rfl fd73_0 rfl rfl) ?_
    refine ol_pure_g rfl rfl h1 rfl rfl (pure_load_box rfl ag70 rfl rfl rfl) ?_
    first | refine ol_pure_g rfl rfl h1 rfl rfl (pure_indexn rfl Tryz.underlying70 sz76 rfl rfl (by omega) (fun _ => rfl)) ?_ | refine ol_pure_g rfl rfl h1 rfl rfl (pure_indexm rfl Tryz.underlying70 sz76 rfl rfl (by omega) (fun _ => rfl)) ?_
    refine ol_pure_g rfl rfl h1 rfl rfl (pure_field rfl fd76_0 rfl) ?_
    refine ol_pure_g rfl rfl h1 rfl rfl (pure_load rfl ag5 rfl rfl) ?_
    refine ol_pure_g rfl rfl h1 rfl rfl (pure_eql rfl rfl rfl) ?_
    refine opk 36 [(0,_),(2,_),(3,_),(9,_),(17,_)] [(2,_),(3,_),(1000001,_)] rfl rfl rfl ?_
    refine ol_pure_g rfl rfl h1 rfl rfl (pure_move rfl rfl) ?_
    refine ol_guard rfl (fun h2 => ?_) (fun h2 => ?_)
    ·have h2' := h2; try simp only [dq] at h2'
     refine ol_skip_g rfl rfl h2 rfl rfl ?_
     refine ol_skip_g rfl rfl h2 rfl rfl ?_
     refine ol_skip_g rfl rfl h2 rfl rfl ?_
     refine ol_skip_g rfl rfl h2 rfl rfl ?_
     refine ol_skip_g rfl rfl h2 rfl rfl ?_
     refine ol_skip_g rfl rfl h2 rfl rfl ?_
     refine opk 36 [(0,_),(2,_),(3,_),(9,_),(18,_),(24,_)] [(2,_),(3,_),(1000001,_)] rfl rfl rfl ?_
     refine ol_skip_g rfl rfl h2 rfl rfl ?_
     refine ol_skip_g rfl rfl h2 rfl rfl ?_
     refine ol_pure_g rfl rfl h1 rfl rfl (pure_pick_t rfl rfl h2 rfl) ?_
     refine ol_pure rfl rfl rfl (pure_pick_t rfl rfl h1 rfl) ?_
     refine ol_nil ?_
     refine spk 36 [(0,_),(2,_),(3,_),(28,_)] [(2,_),(3,_),(1000001,_)] rfl rfl rfl ?_
     refine code_cond_t rfl ?_
     refine code_skip ?_
     refine spk 36 [(0,_),(2,_),(3,_)] [(2,_),(3,_),(1000001,_)] rfl rfl rfl ?_
     refine code_block ?_
     refine code_ops _ rfl ?_
     refine ol_pure rfl rfl rfl (pure_move rfl rfl) ?_
     refine ol_pure rfl rfl rfl (pure_move rfl rfl) ?_
     refine ol_step rfl (step_callO [(1000001, 1000001)] rfl rfl rfl rfl rfl rfl rfl (hP z hz3 hz1 (by unfold PS.hd; omega) (by omega) hz4 (by omega)) ⟨.inl rfl, trivial⟩ ⟨rfl, trivial⟩ rfl rfl rfl rfl rfl hM0) ?_
     refine ol_pure rfl rfl rfl (pure_lit rfl Tryz.underlying23 el25 rfl rfl rfl rfl hM0) ?_
     refine ol_step rfl (step_append rfl rfl rfl rfl Tryz.underlying23 el25 rfl rfl hM0 (src_pl rfl (one_len (by rfl))) (by first | (simp only [ll]; omega) | omega) (by first | (simp only [ll]; omega) | omega)) ?_
     refine ol_pure rfl rfl rfl (pure_assign rfl rfl) ?_
     refine ol_nil ?_
     refine blockQ_normal ?_
     refine loop_next (n := 36) (l := [(0, _), (2, _), (3, _)]) (o' := [(2, _), (3, _), (1000001, _)]) rfl ⟨rfl, rfl, rfl, trivial⟩ ⟨rfl, rfl, rfl, trivial⟩ ?_
     have hk : z.hd = 97 ∨ z.hd = 40 := by unfold PS.hd; omega
     obtain ⟨g1, g2, g3, g4, g5⟩ := hpo hk
     obtain ⟨k, rfl⟩ : ∃ k', k = k' + 1 := ⟨k - 1, by omega⟩
     refine ⟨_, ⟨(pPost n z).2, k, acc ++ [(pPost n z).1], rfl, ⟨g1, by omega, by omega, hz4.sub g5⟩, by rw [sizes_append, Rx.sizes, Rx.sizes]; omega, ?_, ?_⟩, by omega⟩
     · rw [← hL1_2, seqLp_step ⟨by omega, hk⟩, List.append_assoc]; rfl
     · rw [List.map_append]; rfl
    ·have h2' := h2; try simp only [dq] at h2'
     refine ol_pure_g rfl rfl h2 rfl rfl (pure_move rfl rfl) ?_
     refine ol_pure_g rfl rfl h2 rfl rfl (pure_nilbox rfl rfl rfl) ?_
     refine ol_pure_g rfl rfl h2 rfl rfl (pure_field_box rfl fd73_0 rfl rfl) ?_
     refine ol_pure_g rfl rfl h2 rfl rfl (pure_load_box rfl ag70 rfl rfl rfl) ?_
     first | refine ol_pure_g rfl rfl h2 rfl rfl (pure_indexn rfl Tryz.underlying70 sz76 rfl rfl (by omega) (fun _ => rfl)) ?_ | refine ol_pure_g rfl rfl h2 rfl rfl (pure_indexm rfl Tryz.underlying70 sz76 rfl rfl (by omega) (fun _ => rfl)) ?_
     refine ol_pure_g rfl rfl h2 rfl rfl (pure_field rfl fd76_0 rfl) ?_
     refine opk 36 [(0,_),(2,_),(3,_),(9,_),(18,_),(24,_)] [(2,_),(3,_),(1000001,_)] rfl rfl rfl ?_
     refine ol_pure_g rfl rfl h2 rfl rfl (pure_load rfl ag5 rfl rfl) ?_
     refine ol_pure_g rfl rfl h2 rfl rfl (pure_eql rfl rfl rfl) ?_
     refine ol_pure_g rfl rfl h1 rfl rfl (pure_pick_f rfl rfl h2 rfl) ?_
     refine ol_pure rfl rfl rfl (pure_pick_t rfl rfl h1 rfl) ?_
     refine ol_nil ?_
     refine spk 36 [(0,_),(2,_),(3,_),(28,_)] [(2,_),(3,_),(1000001,_)] rfl rfl rfl ?_
     refine code_cond rfl (fun h3 => ?_) (fun h3 => ?_)
     ·try simp only [dq] at h3
      refine code_skip ?_
      refine spk 36 [(0,_),(2,_),(3,_)] [(2,_),(3,_),(1000001,_)] rfl rfl rfl ?_
      refine code_block ?_
      refine code_ops _ rfl ?_
      refine ol_pure rfl rfl rfl (pure_move rfl rfl) ?_
      refine ol_pure rfl rfl rfl (pure_move rfl rfl) ?_
      refine ol_step rfl (step_callO [(1000001, 1000001)] rfl rfl rfl rfl rfl rfl rfl (hP z hz3 hz1 (by unfold PS.hd; omega) (by omega) hz4 (by omega)) ⟨.inl rfl, trivial⟩ ⟨rfl, trivial⟩ rfl rfl rfl rfl rfl hM0) ?_
      refine ol_pure rfl rfl rfl (pure_lit rfl Tryz.underlying23 el25 rfl rfl rfl rfl hM0) ?_
      refine ol_step rfl (step_append rfl rfl rfl rfl Tryz.underlying23 el25 rfl rfl hM0 (src_pl rfl (one_len (by rfl))) (by first | (simp only [ll]; omega) | omega) (by first | (simp only [ll]; omega) | omega)) ?_
      refine ol_pure rfl rfl rfl (pure_assign rfl rfl) ?_
      refine ol_nil ?_
      refine blockQ_normal ?_
      refine loop_next (n := 36) (l := [(0, _), (2, _), (3, _)]) (o' := [(2, _), (3, _), (1000001, _)]) rfl ⟨rfl, rfl, rfl, trivial⟩ ⟨rfl, rfl, rfl, trivial⟩ ?_
      have hk : z.hd = 97 ∨ z.hd = 40 := by unfold PS.hd; omega
      obtain ⟨g1, g2, g3, g4, g5⟩ := hpo hk
      obtain ⟨k, rfl⟩ : ∃ k', k = k' + 1 := ⟨k - 1, by omega⟩
      refine ⟨_, ⟨(pPost n z).2, k, acc ++ [(pPost n z).1], rfl, ⟨g1, by omega, by omega, hz4.sub g5⟩, by rw [sizes_append, Rx.sizes, Rx.sizes]; omega, ?_, ?_⟩, by omega⟩
      · rw [← hL1_2, seqLp_step ⟨by omega, hk⟩, List.append_assoc]; rfl
      · rw [List.map_append]; rfl
     ·try simp only [dq] at h3
      refine code_exit ?_
      refine seqQ_exit ?_
      refine loopM_exit ?_
      refine blockQ_same ?_
      refine spk 36 [(2,_),(3,_)] [(2,_),(3,_),(1000001,_)] rfl rfl rfl ?_
      refine code_seq ?_
      refine code_frz 36 [(2, _), (3, _)] [(2, _), (1000001, _)] hM0 rfl ⟨.inl rfl, .inr ⟨_, _, rfl, rfl, rfl⟩, trivial⟩ ⟨rfl, rfl, trivial⟩ ?_
      refine code_ops _ rfl ?_
      refine ol_pure rfl rfl rfl (pure_move rfl rfl) ?_
      refine ol_pure rfl rfl rfl (pure_callN rfl rfl rfl rfl (seq_call (l := acc) (by omega)) hM0) ?_
      refine ol_step rfl (step_store_box rfl rfl rfl sz25 rfl rfl rfl rfl (by decide) rfl rfl hM0) ?_
      refine ol_nil ?_
      refine spk 36 [(2,_)] [(2,_),(1000001,_)] rfl rfl rfl ?_
      refine code_ret ?_
      refine endOC_ret (o1 := [(1000001, _)]) rfl ⟨rfl, trivial⟩ ?_
      have hs0 : seqLp (pPost n) k z = ([], z) := seqLp_stop (by unfold PS.hd; omega)
      rw [hs0, List.append_nil] at hL1_2
      rw [pSeq_is hL1_2]; exact ⟨rfl, rfl⟩
   ·have h1' := h1; try simp only [dq] at h1'
    refine ol_skip_g rfl rfl h1 rfl rfl ?_
    refine opk 36 [(0,_),(2,_),(3,_),(9,_),(10,_)] [(2,_),(3,_),(1000001,_)] rfl rfl rfl ?_
    refine ol_skip_g rfl rfl h1 rfl rfl ?_
    refine ol_skip_g rfl rfl h1 rfl rfl ?_
    refine ol_skip_g rfl rfl h1 rfl rfl ?_
    refine ol_skip_g rfl rfl h1 rfl rfl ?_
    refine ol_skip_g rfl rfl h1 rfl rfl ?_
    refine ol_skip_g rfl rfl h1 rfl rfl ?_
    refine ol_skip_g rfl rfl h1 rfl rfl ?_
    refine opk 36 [(0,_),(2,_),(3,_),(9,_),(17,_)] [(2,_),(3,_),(1000001,_)] rfl rfl rfl ?_
    refine ol_skip_g rfl rfl h1 rfl rfl ?_
    refine ol_skip_u rfl rfl rfl ?_
    refine ol_skip_u rfl rfl rfl ?_
    refine ol_skip_u rfl rfl rfl ?_
    refine ol_skip_u rfl rfl rfl ?_
    refine ol_skip_u rfl rfl rfl ?_
    refine ol_skip_u rfl rfl rfl ?_
    refine opk 36 [(0,_),(2,_),(3,_),(9,_),(18,_),(24,_)] [(2,_),(3,_),(1000001,_)] rfl rfl rfl ?_
    refine ol_skip_u rfl rfl rfl ?_
    refine ol_skip_u rfl rfl rfl ?_
    refine ol_skip_g rfl rfl h1 rfl rfl ?_
    refine ol_pure rfl rfl rfl (pure_pick_f rfl rfl h1 rfl) ?_
    refine ol_nil ?_
    refine spk 36 [(0,_),(2,_),(3,_),(28,_)] [(2,_),(3,_),(1000001,_)] rfl rfl rfl ?_
    refine code_cond_f rfl ?_
    refine code_exit ?_
    refine seqQ_exit ?_
    refine loopM_exit ?_
    refine blockQ_same ?_
    refine spk 36 [(2,_),(3,_)] [(2,_),(3,_),(1000001,_)] rfl rfl rfl ?_
    refine code_seq ?_
    refine code_frz 36 [(2, _), (3, _)] [(2, _), (1000001, _)] hM0 rfl ⟨.inl rfl, .inr ⟨_, _, rfl, rfl, rfl⟩, trivial⟩ ⟨rfl, rfl, trivial⟩ ?_
    refine code_ops _ rfl ?_
    refine ol_pure rfl rfl rfl (pure_move rfl rfl) ?_
    refine ol_pure rfl rfl rfl (pure_callN rfl rfl rfl rfl (seq_call (l := acc) (by omega)) hM0) ?_
    refine ol_step rfl (step_store_box rfl rfl rfl sz25 rfl rfl rfl rfl (by decide) rfl rfl hM0) ?_
    refine ol_nil ?_
    refine spk 36 [(2,_)] [(2,_),(1000001,_)] rfl rfl rfl ?_
    refine code_ret ?_
    refine endOC_ret (o1 := [(1000001, _)]) rfl ⟨rfl, trivial⟩ ?_
    have hs0 : seqLp (pPost n) k z = ([], z) := seqLp_stop (by unfold PS.hd; omega)
    rw [hs0, List.append_nil] at hL1_2
    rw [pSeq_is hL1_2]; exact ⟨rfl, rfl⟩
theorem fn60 : FnC Tryz.prog 60 Tryz.f60.ntmps 2 25 3 (Tryz.f60.body.getD .skip) := ⟨Tryz.f60, Tryz.func60, rfl, rfl, rfl, by kernel_rfl, ag25, sz25⟩
set_option maxRecDepth 100000 in
set_option maxHeartbeats 4000000 in
theorem palt_call {n : Nat} (hS : SeqC n) : AltC n := by
  intro s hn he ha hw
  obtain ⟨g1, g2, g3, g4, g5⟩ := pSeq_ok (pPost_ok n) s hn he ha
  refine callO_of_codeC fn60 (Nat.le_of_ble_eq_true rfl) fun w0 M0 hM0 => ?_
  refine code_seq ?_
  refine code_ops _ rfl ?_
  refine ol_step rfl (step_alloc rfl rfl rfl rfl rfl ze25 rfl hM0) ?_
  refine ol_nil ?_
  refine spk 37 [(0,_),(2,_)] [(2,_),(1000001,_)] rfl rfl rfl ?_
  refine code_seq ?_
  refine code_ops _ rfl ?_
  refine ol_pure rfl rfl rfl (pure_move rfl rfl) ?_
  refine ol_step rfl (step_callO [(1000001, 1000001)] rfl rfl rfl rfl rfl rfl rfl (hS s hn he ha hw) ⟨.inl rfl, trivial⟩ ⟨rfl, trivial⟩ rfl rfl rfl rfl rfl hM0) ?_
  refine ol_step rfl (step_lit rfl rfl rfl rfl Tryz.underlying23 el25 rfl rfl rfl rfl hM0) ?_
  refine ol_pure rfl rfl rfl (pure_assign rfl rfl) ?_
  refine ol_nil ?_
  refine spk 37 [(0,_),(2,_),(3,_)] [(2,_),(6,_),(1000001,_)] rfl rfl rfl ?_
  refine code_seq ?_
  refine code_block ?_
  refine code_loopM (fun zm zs => ∃ (z : PS) (k : Nat) (acc : List Rx), zm = z.l.length ∧ (endT z.l ∧ z.l.length ≤ k ∧ z.l.length ≤ n ∧ TokOk z.l) ∧ (Rx.sizes acc + wtT z.l ≤ wtT s.l + 1) ∧ ((acc ++ (altLp (pSeq (pPost n)) k z).1, (altLp (pSeq (pPost n)) k z).2) = ((pSeq (pPost n) s).1 :: (altLp (pSeq (pPost n)) (pSeq (pPost n) s).2.l.length (pSeq (pPost n) s).2).1, (altLp (pSeq (pPost n)) (pSeq (pPost n) s).2.l.length (pSeq (pPost n) s).2).2)) ∧ zs = ⟨37, [(0, .pbox 1000001 0), (2, .pbox 2 0), (3, .own 6)], [(2, .box 25 [.v .pl (.sc (.int .i64 0)), .v .pl (.sc (.slice none 0 0)), .v .pl (.sc (.slice none 0 0))]), (6, .arr 25 (acc.map rx)), (1000001, .box 73 [.v .pl (toks (z).l), .v .pl (int (z).bad)])]⟩) (loop_init (n := 37) (l := [(0, _), (2, _), (3, _)]) (o' := [(2, _), (6, _), (1000001, _)]) rfl ⟨rfl, rfl, rfl, trivial⟩ ⟨rfl, rfl, rfl, trivial⟩ ?_) ?_
  ·exact ⟨_, (pSeq (pPost n) s).2, _, [(pSeq (pPost n) s).1], rfl, ⟨g1, Nat.le_refl _, by omega, ha.sub g5⟩, by rw [Rx.sizes, Rx.sizes]; omega, rfl, rfl⟩
  ·rintro zm zs ⟨z, k, acc, rfl, hL1_0, hL1_1, hL1_2, rfl⟩
   obtain ⟨hz1, hz2, hz3, hz4⟩ := hL1_0
   have hz0 := hz1.1
   have hsl := sizes_len acc
   have hwz := wt_adv hz1.1
   have hadv := fun h => endT_adv hz1 h
   have hsub : ∀ t ∈ z.adv.l, t ∈ z.l := fun t ht => List.mem_of_mem_drop ht
   refine code_seq ?_
   refine code_seq ?_
   refine code_ops _ rfl ?_
   refine ol_pure rfl rfl rfl (pure_move rfl rfl) ?_
   refine ol_pure rfl rfl rfl (pure_nilbox rfl rfl rfl) ?_
   refine ol_pure rfl rfl rfl (pure_field_box rfl fd73_1 rfl rfl) ?_
   refine ol_pure rfl rfl rfl (pure_load_box rfl ag3 rfl rfl rfl) ?_
   refine ol_pure rfl rfl rfl (pure_lss rfl rfl rfl) ?_
   refine ol_pure rfl rfl rfl (pure_move rfl rfl) ?_
   refine ol_guard rfl (fun h1 => ?_) (fun h1 => ?_)
   ·have h1' := h1; try simp only [dq] at h1'
    refine ol_pure_g rfl rfl h1 rfl rfl (pure_move rfl rfl) ?_
    refine opk 37 [(0,_),(2,_),(3,_),(12,_),(13,_)] [(2,_),(6,_),(1000001,_)] rfl rfl rfl ?_
    refine ol_pure_g rfl rfl h1 rfl rfl (pure_nilbox rfl rfl rfl) ?_
    refine ol_pure_g rfl rfl h1 rfl rfl (pure_field_box rfl fd73_0 rfl rfl) ?_
    refine ol_pure_g rfl rfl h1 rfl rfl (pure_load_box rfl ag70 rfl rfl rfl) ?_
    first | refine ol_pure_g rfl rfl h1 rfl rfl (pure_indexn rfl Tryz.underlying70 sz76 rfl rfl (by omega) (fun _ => rfl)) ?_ | refine ol_pure_g rfl rfl h1 rfl rfl (pure_indexm rfl Tryz.underlying70 sz76 rfl rfl (by omega) (fun _ => rfl)) ?_
    refine ol_pure_g rfl rfl h1 rfl rfl (pure_field rfl fd76_0 rfl) ?_
    refine ol_pure_g rfl rfl h1 rfl rfl (pure_load rfl ag5 rfl rfl) ?_
    refine ol_pure_g rfl rfl h1 rfl rfl (pure_eql rfl rfl rfl) ?_
    refine ol_pure rfl rfl rfl (pure_pick_t rfl rfl h1 rfl) ?_
    refine ol_nil ?_
    refine spk 37 [(0,_),(2,_),(3,_),(21,_)] [(2,_),(6,_),(1000001,_)] rfl rfl rfl ?_
    refine code_cond rfl (fun h2 => ?_) (fun h2 => ?_)
    ·try simp only [dq] at h2
     refine code_skip ?_
     refine spk 37 [(0,_),(2,_),(3,_)] [(2,_),(6,_),(1000001,_)] rfl rfl rfl ?_
     refine code_block ?_
     refine code_seq ?_
     refine code_ops _ rfl ?_
     refine ol_pure rfl rfl rfl (pure_move rfl rfl) ?_
     refine ol_pure rfl rfl rfl (pure_move rfl rfl) ?_
     refine ol_pure rfl rfl rfl (pure_nilbox rfl rfl rfl) ?_
     refine ol_pure rfl rfl rfl (pure_field_box rfl fd73_0 rfl rfl) ?_
     refine ol_pure rfl rfl rfl (pure_load_box rfl ag70 rfl rfl rfl) ?_
     refine ol_pure rfl rfl rfl (pure_slice_lm rfl Tryz.underlying70 sz76 rfl rfl (by first | (simp only [ll]; omega) | omega) (fun _ => rfl)) ?_
     refine ol_pure rfl rfl rfl (pure_nilbox rfl rfl rfl) ?_
     refine ol_pure rfl rfl rfl (pure_field_box rfl fd73_0 rfl rfl) ?_
     refine ol_step rfl (step_store_box rfl rfl rfl sz70 rfl rfl rfl rfl (by decide) rfl rfl hM0) ?_
     refine ol_nil ?_
     refine spk 37 [(0,_),(2,_),(3,_)] [(2,_),(6,_),(1000001,_)] rfl rfl rfl ?_
     refine code_ops _ rfl ?_
     refine ol_pure rfl rfl rfl (pure_move rfl rfl) ?_
     refine ol_pure rfl rfl rfl (pure_move rfl rfl) ?_
     refine ol_step rfl (step_callO [(1000001, 1000001)] rfl rfl rfl rfl rfl rfl rfl (hS z.adv (by have := (hadv (by unfold PS.hd; omega)).2; omega) (hadv (by unfold PS.hd; omega)).1 (hz4.sub hsub) (by omega)) ⟨.inl rfl, trivial⟩ ⟨rfl, trivial⟩ rfl rfl rfl rfl rfl hM0) ?_
     refine ol_pure rfl rfl rfl (pure_lit rfl Tryz.underlying23 el25 rfl rfl rfl rfl hM0) ?_
     refine ol_step rfl (step_append rfl rfl rfl rfl Tryz.underlying23 el25 rfl rfl hM0 (src_pl rfl (one_len (by rfl))) (by first | (simp only [ll]; omega) | omega) (by first | (simp only [ll]; omega) | omega)) ?_
     refine ol_pure rfl rfl rfl (pure_assign rfl rfl) ?_
     refine ol_nil ?_
     refine blockQ_normal ?_
     refine loop_next (n := 37) (l := [(0, _), (2, _), (3, _)]) (o' := [(2, _), (6, _), (1000001, _)]) rfl ⟨rfl, rfl, rfl, trivial⟩ ⟨rfl, rfl, rfl, trivial⟩ ?_
     have hk : z.hd = 124 := by unfold PS.hd; omega
     obtain ⟨a1, a2⟩ := hadv (by omega)
     obtain ⟨c1, c2, c3, c4, c5⟩ := pSeq_ok (pPost_ok n) z.adv (by omega) a1 (hz4.sub hsub)
     obtain ⟨k, rfl⟩ : ∃ k', k = k' + 1 := ⟨k - 1, by omega⟩
     refine ⟨_, ⟨(pSeq (pPost n) z.adv).2, k, acc ++ [(pSeq (pPost n) z.adv).1], rfl, ⟨c1, by omega, by omega, hz4.sub fun t ht => hsub t (c5 t ht)⟩, by rw [sizes_append, Rx.sizes, Rx.sizes]; omega, ?_, ?_⟩, by omega⟩
     · rw [← hL1_2, altLp_step ⟨by omega, hk⟩, List.append_assoc]; rfl
     · rw [List.map_append]; rfl
    ·try simp only [dq] at h2
     refine code_exit ?_
     refine seqQ_exit ?_
     refine loopM_exit ?_
     refine blockQ_same ?_
     refine spk 37 [(2,_),(3,_)] [(2,_),(6,_),(1000001,_)] rfl rfl rfl ?_
     refine code_seq ?_
     refine code_frz 37 [(2, _), (3, _)] [(2, _), (1000001, _)] hM0 rfl ⟨.inl rfl, .inr ⟨_, _, rfl, rfl, rfl⟩, trivial⟩ ⟨rfl, rfl, trivial⟩ ?_
     refine code_ops _ rfl ?_
     refine ol_pure rfl rfl rfl (pure_move rfl rfl) ?_
     refine ol_pure rfl rfl rfl (pure_callN rfl rfl rfl rfl (alt_call (l := acc) (by omega)) hM0) ?_
     refine ol_step rfl (step_store_box rfl rfl rfl sz25 rfl rfl rfl rfl (by decide) rfl rfl hM0) ?_
     refine ol_nil ?_
     refine spk 37 [(2,_)] [(2,_),(1000001,_)] rfl rfl rfl ?_
     refine code_ret ?_
     refine endOC_ret (o1 := [(1000001, _)]) rfl ⟨rfl, trivial⟩ ?_
     have hs0 : altLp (pSeq (pPost n)) k z = ([], z) := altLp_stop (by unfold PS.hd; omega)
     rw [hs0, List.append_nil] at hL1_2
     rw [pAlt_is hL1_2]; exact ⟨rfl, rfl⟩
   ·have h1' := h1; try simp only [dq] at h1'
    refine ol_skip_g rfl rfl h1 rfl rfl ?_
    refine opk 37 [(0,_),(2,_),(3,_),(12,_),(13,_)] [(2,_),(6,_),(1000001,_)] rfl rfl rfl ?_
    refine ol_skip_g rfl rfl h1 rfl rfl ?_
    refine ol_skip_g rfl rfl h1 rfl rfl ?_
    refine ol_skip_g rfl rfl h1 rfl rfl ?_
    refine ol_skip_g rfl rfl h1 rfl rfl ?_
    refine ol_skip_g rfl rfl h1 rfl rfl ?_
    refine ol_skip_g rfl rfl h1 rfl rfl ?_
    refine ol_skip_g rfl rfl h1 rfl rfl ?_
    refine ol_pure rfl rfl rfl (pure_pick_f rfl rfl h1 rfl) ?_
    refine ol_nil ?_
    refine spk 37 [(0,_),(2,_),(3,_),(21,_)] [(2,_),(6,_),(1000001,_)] rfl rfl rfl ?_
    refine code_cond_f rfl ?_
    refine code_exit ?_
    refine seqQ_exit ?_
    refine loopM_exit ?_
    refine blockQ_same ?_
    refine spk 37 [(2,_),(3,_)] [(2,_),(6,_),(1000001,_)] rfl rfl rfl ?_
    refine code_seq ?_
    refine code_frz 37 [(2, _), (3, _)] [(2, _), (1000001, _)] hM0 rfl ⟨.inl rfl, .inr ⟨_, _, rfl, rfl, rfl⟩, trivial⟩ ⟨rfl, rfl, trivial⟩ ?_
    refine code_ops _ rfl ?_
    refine ol_pure rfl rfl rfl (pure_move rfl rfl) ?_
    refine ol_pure rfl rfl rfl (pure_callN rfl rfl rfl rfl (alt_call (l := acc) (by omega)) hM0) ?_
    refine ol_step rfl (step_store_box rfl rfl rfl sz25 rfl rfl rfl rfl (by decide) rfl rfl hM0) ?_
    refine ol_nil ?_
    refine spk 37 [(2,_)] [(2,_),(1000001,_)] rfl rfl rfl ?_
    refine code_ret ?_
    refine endOC_ret (o1 := [(1000001, _)]) rfl ⟨rfl, trivial⟩ ?_
    have hs0 : altLp (pSeq (pPost n)) k z = ([], z) := altLp_stop (by unfold PS.hd; omega)
    rw [hs0, List.append_nil] at hL1_2
    rw [pAlt_is hL1_2]; exact ⟨rfl, rfl⟩
theorem fn124 : FnC Tryz.prog 124 Tryz.f124.ntmps 2 25 3 (Tryz.f124.body.getD .skip) := ⟨Tryz.f124, Tryz.func124, rfl, rfl, rfl, by kernel_rfl, ag25, sz25⟩
set_option maxRecDepth 100000 in
set_option maxHeartbeats 4000000 in
theorem ppost_call {n : Nat} (hA : AltC n) : PostC (n + 1) := by
  intro s hn he hk hbad ha hw
  obtain ⟨f1, f2⟩ := endT_adv he (by omega)
  have f0 := he.1
  have f3 : ∀ t ∈ s.adv.l, t ∈ s.l := fun t ht => List.mem_of_mem_drop ht
  have hwa := wt_adv he.1
  have hAo := fun h : s.adv.l.length ≤ n => pAlt_ok (pSeq_ok (pPost_ok n)) s.adv h f1 (ha.sub f3)
  refine callO_of_codeC fn124 (Nat.le_of_ble_eq_true rfl) fun w0 M0 hM0 => ?_
  refine code_seq ?_
  refine code_ops _ rfl ?_
  refine ol_step rfl (step_alloc rfl rfl rfl rfl rfl ze25 rfl hM0) ?_
  refine ol_nil ?_
  refine spk 98 [(0,_),(2,_)] [(2,_),(1000001,_)] rfl rfl rfl ?_
  refine code_seq ?_
  refine code_ops _ rfl ?_
  refine ol_pure rfl rfl rfl (pure_move rfl rfl) ?_
  refine ol_pure rfl rfl rfl (pure_nilbox rfl rfl rfl) ?_
  refine ol_pure rfl rfl rfl (pure_field_box rfl fd73_0 rfl rfl) ?_
  refine ol_pure rfl rfl rfl (pure_load_box rfl ag70 rfl rfl rfl) ?_
  first | refine ol_pure rfl rfl rfl (pure_indexn rfl Tryz.underlying70 sz76 rfl rfl (by omega) (fun _ => rfl)) ?_ | refine ol_pure rfl rfl rfl (pure_indexm rfl Tryz.underlying70 sz76 rfl rfl (by omega) (fun _ => rfl)) ?_
  refine ol_pure rfl rfl rfl (pure_load_agg rfl ag76 sz76 rfl (Nat.le_of_ble_eq_true rfl)) ?_
  refine ol_step rfl (step_alloc rfl rfl rfl rfl rfl ze76 rfl hM0) ?_
  refine ol_step rfl (step_store_box rfl rfl rfl sz76 rfl rfl rfl rfl (by decide) rfl rfl hM0) ?_
  refine ol_nil ?_
  refine spk 98 [(0,_),(2,_),(3,_)] [(2,_),(3,_),(1000001,_)] rfl rfl rfl ?_
  refine code_seq ?_
  refine code_ops _ rfl ?_
  refine ol_pure rfl rfl rfl (pure_move rfl rfl) ?_
  refine ol_pure rfl rfl rfl (pure_move rfl rfl) ?_
  refine ol_pure rfl rfl rfl (pure_nilbox rfl rfl rfl) ?_
  refine ol_pure rfl rfl rfl (pure_field_box rfl fd73_0 rfl rfl) ?_
  refine ol_pure rfl rfl rfl (pure_load_box rfl ag70 rfl rfl rfl) ?_
  refine ol_pure rfl rfl rfl (pure_slice_lm rfl Tryz.underlying70 sz76 rfl rfl (by first | (simp only [ll]; omega) | omega) (fun _ => rfl)) ?_
  refine ol_pure rfl rfl rfl (pure_nilbox rfl rfl rfl) ?_
  refine ol_pure rfl rfl rfl (pure_field_box rfl fd73_0 rfl rfl) ?_
  refine ol_step rfl (step_store_box rfl rfl rfl sz70 rfl rfl rfl rfl (by decide) rfl rfl hM0) ?_
  refine ol_nil ?_
  refine spk 98 [(0,_),(2,_),(3,_)] [(2,_),(3,_),(1000001,_)] rfl rfl rfl ?_
  refine code_seq ?_
  refine code_ops _ rfl ?_
  refine ol_pure rfl rfl rfl (pure_field_box rfl fd76_1 rfl rfl) ?_
  refine ol_pure rfl rfl rfl (pure_load_box_agg rfl ag25 sz25 rfl rfl rfl rfl) ?_
  refine ol_step rfl (step_alloc rfl rfl rfl rfl rfl ze25 rfl hM0) ?_
  refine ol_step rfl (step_store_box rfl rfl rfl sz25 rfl rfl rfl rfl (by decide) rfl rfl hM0) ?_
  refine ol_nil ?_
  refine spk 98 [(0,_),(2,_),(3,_),(4,_)] [(2,_),(3,_),(4,_),(1000001,_)] rfl rfl rfl ?_
  refine code_cut (fun zs => ∃ (z : PS) (x : Rx), (endT z.l ∧ TokOk z.l) ∧ (x.size + wtT z.l ≤ wtT s.l) ∧ (Nf x) ∧ (starLp z.l.length z x = pPost (n + 1) s) ∧ zs = ⟨98, [(0, .pbox 1000001 0), (2, .pbox 2 0), (4, .pbox 4 0)], [(2, .box 25 [.v .pl (.sc (.int .i64 0)), .v .pl (.sc (.slice none 0 0)), .v .pl (.sc (.slice none 0 0))]), (4, .box 25 [.v .pl (int (x).kind), .v .pl (ints (x).syms), .v .pl (.sl (Rx.avs (x).kids))]), (1000001, .box 73 [.v .pl (toks (z).l), .v .pl (int (z).bad)])]⟩) ?_ ?_
  ·skip
   refine code_seq ?_
   refine code_ops _ rfl ?_
   refine ol_pure rfl rfl rfl (pure_field_box rfl fd76_0 rfl rfl) ?_
   refine ol_pure rfl rfl rfl (pure_load_box rfl ag5 rfl rfl rfl) ?_
   refine ol_pure rfl rfl rfl (pure_eql rfl rfl rfl) ?_
   refine ol_nil ?_
   refine spk 98 [(0,_),(2,_),(4,_),(23,_)] [(2,_),(4,_),(1000001,_)] rfl rfl rfl ?_
   refine code_cond rfl (fun h1 => ?_) (fun h1 => ?_)
   ·try simp only [dq] at h1
    refine code_seq ?_
    refine code_ops _ rfl ?_
    refine ol_pure rfl rfl rfl (pure_move rfl rfl) ?_
    refine ol_step rfl (step_callO [(1000001, 1000001)] rfl rfl rfl rfl rfl rfl rfl (hA s.adv (by omega) f1 (ha.sub f3) (by omega)) ⟨.inl rfl, trivial⟩ ⟨rfl, trivial⟩ rfl rfl rfl rfl rfl hM0) ?_
    refine ol_step rfl (step_store_box rfl rfl rfl sz25 rfl rfl rfl rfl (by decide) rfl rfl hM0) ?_
    refine ol_nil ?_
    refine spk 98 [(0,_),(2,_),(4,_)] [(2,_),(4,_),(1000001,_)] rfl rfl rfl ?_
    refine code_cut (fun zs => zs = ⟨98, [(0, .pbox 1000001 0), (2, .pbox 2 0), (4, .pbox 4 0)], [(2, .box 25 [.v .pl (.sc (.int .i64 0)), .v .pl (.sc (.slice none 0 0)), .v .pl (.sc (.slice none 0 0))]), (4, .box 25 [.v .pl (int ((pAlt (pSeq (pPost n)) s.adv).1).kind), .v .pl (ints ((pAlt (pSeq (pPost n)) s.adv).1).syms), .v .pl (.sl (Rx.avs ((pAlt (pSeq (pPost n)) s.adv).1).kids))]), (1000001, .box 73 [.v .pl (toks (closeP (pAlt (pSeq (pPost n)) s.adv).2).l), .v .pl (int (closeP (pAlt (pSeq (pPost n)) s.adv).2).bad)])]⟩) ?_ ?_
    ·skip
     refine code_seq ?_
     obtain ⟨g1, g2, g3, g4, g5⟩ := hAo (by omega)
     have g0 := g1.1
     refine code_ops _ rfl ?_
     refine ol_pure rfl rfl rfl (pure_move rfl rfl) ?_
     refine ol_pure rfl rfl rfl (pure_nilbox rfl rfl rfl) ?_
     refine ol_pure rfl rfl rfl (pure_field_box rfl fd73_1 rfl rfl) ?_
     refine ol_pure rfl rfl rfl (pure_load_box rfl ag3 rfl rfl rfl) ?_
     refine ol_pure rfl rfl rfl (pure_lss rfl rfl rfl) ?_
     refine ol_pure rfl rfl rfl (pure_move rfl rfl) ?_
     refine ol_guard rfl (fun h2 => ?_) (fun h2 => ?_)
     ·have h2' := h2; try simp only [dq] at h2'
      refine ol_pure_g rfl rfl h2 rfl rfl (pure_move rfl rfl) ?_
      refine opk 98 [(0,_),(2,_),(4,_),(31,_),(32,_)] [(2,_),(4,_),(1000001,_)] rfl rfl rfl ?_
      refine ol_pure_g rfl rfl h2 rfl rfl (pure_nilbox rfl rfl rfl) ?_
      refine ol_pure_g rfl rfl h2 rfl rfl (pure_field_box rfl fd73_0 rfl rfl) ?_
      refine ol_pure_g rfl rfl h2 rfl rfl (pure_load_box rfl ag70 rfl rfl rfl) ?_
      first | refine ol_pure_g rfl rfl h2 rfl rfl (pure_indexn rfl Tryz.underlying70 sz76 rfl rfl (by omega) (fun _ => rfl)) ?_ | refine ol_pure_g rfl rfl h2 rfl rfl (pure_indexm rfl Tryz.underlying70 sz76 rfl rfl (by omega) (fun _ => rfl)) ?_
      refine ol_pure_g rfl rfl h2 rfl rfl (pure_field rfl fd76_0 rfl) ?_
      refine ol_pure_g rfl rfl h2 rfl rfl (pure_load rfl ag5 rfl rfl) ?_
      refine ol_pure_g rfl rfl h2 rfl rfl (pure_neq rfl rfl rfl) ?_
      refine ol_pure rfl rfl rfl (pure_pick_t rfl rfl h2 rfl) ?_
      refine ol_nil ?_
      refine spk 98 [(0,_),(2,_),(4,_),(40,_)] [(2,_),(4,_),(1000001,_)] rfl rfl rfl ?_
      refine code_cond rfl (fun h3 => ?_) (fun h3 => ?_)
      ·try simp only [dq] at h3
       refine code_ops _ rfl ?_
       refine ol_pure rfl rfl rfl (pure_move rfl rfl) ?_
       refine ol_step rfl (step_callO [(1000001, 1000001)] rfl rfl rfl rfl rfl rfl rfl (fail_call (s := (pAlt (pSeq (pPost n)) s.adv).2) g0) ⟨.inl rfl, trivial⟩ ⟨rfl, trivial⟩ rfl rfl rfl rfl rfl hM0) ?_
       refine ol_nil ?_
       refine cut_next (n := 98) (l := [(0, _), (2, _), (4, _)]) (o' := [(2, _), (4, _), (1000001, _)]) rfl ⟨rfl, rfl, rfl, trivial⟩ ⟨rfl, rfl, rfl, trivial⟩ ?_
       first
         | (rw [show closeP (pAlt (pSeq (pPost n)) s.adv).2 = (pAlt (pSeq (pPost n)) s.adv).2.fail from if_pos ⟨by omega, by unfold PS.hd; omega⟩]; rfl)
         | (rw [show closeP (pAlt (pSeq (pPost n)) s.adv).2 = (pAlt (pSeq (pPost n)) s.adv).2 from if_neg (fun q => by have q2 := q.2; unfold PS.hd at q2; omega)]; rfl)
      ·try simp only [dq] at h3
       refine code_skip ?_
       refine cut_next (n := 98) (l := [(0, _), (2, _), (4, _)]) (o' := [(2, _), (4, _), (1000001, _)]) rfl ⟨rfl, rfl, rfl, trivial⟩ ⟨rfl, rfl, rfl, trivial⟩ ?_
       first
         | (rw [show closeP (pAlt (pSeq (pPost n)) s.adv).2 = (pAlt (pSeq (pPost n)) s.adv).2.fail from if_pos ⟨by omega, by unfold PS.hd; omega⟩]; rfl)
         | (rw [show closeP (pAlt (pSeq (pPost n)) s.adv).2 = (pAlt (pSeq (pPost n)) s.adv).2 from if_neg (fun q => by have q2 := q.2; unfold PS.hd at q2; omega)]; rfl)
     ·have h2' := h2; try simp only [dq] at h2'
      refine ol_skip_g rfl rfl h2 rfl rfl ?_
      refine opk 98 [(0,_),(2,_),(4,_),(31,_),(32,_)] [(2,_),(4,_),(1000001,_)] rfl rfl rfl ?_
      refine ol_skip_g rfl rfl h2 rfl rfl ?_
      refine ol_skip_g rfl rfl h2 rfl rfl ?_
      refine ol_skip_g rfl rfl h2 rfl rfl ?_
      refine ol_skip_g rfl rfl h2 rfl rfl ?_
      refine ol_skip_g rfl rfl h2 rfl rfl ?_
      refine ol_skip_g rfl rfl h2 rfl rfl ?_
      refine ol_skip_g rfl rfl h2 rfl rfl ?_
      refine ol_pure rfl rfl rfl (pure_pick_f rfl rfl h2 rfl) ?_
      refine ol_nil ?_
      refine spk 98 [(0,_),(2,_),(4,_),(40,_)] [(2,_),(4,_),(1000001,_)] rfl rfl rfl ?_
      refine code_cond_f rfl ?_
      refine code_skip ?_
      refine cut_next (n := 98) (l := [(0, _), (2, _), (4, _)]) (o' := [(2, _), (4, _), (1000001, _)]) rfl ⟨rfl, rfl, rfl, trivial⟩ ⟨rfl, rfl, rfl, trivial⟩ ?_
      first
        | (rw [show closeP (pAlt (pSeq (pPost n)) s.adv).2 = (pAlt (pSeq (pPost n)) s.adv).2.fail from if_pos ⟨by omega, by unfold PS.hd; omega⟩]; rfl)
        | (rw [show closeP (pAlt (pSeq (pPost n)) s.adv).2 = (pAlt (pSeq (pPost n)) s.adv).2 from if_neg (fun q => by have q2 := q.2; unfold PS.hd at q2; omega)]; rfl)
    ·rintro zs ⟨rfl⟩
     obtain ⟨g1, g2, g3, g4, g5⟩ := hAo (by omega)
     have g0 := g1.1
     have hcl := closeP_l (pAlt (pSeq (pPost n)) s.adv).2
     have hcb := fun h => closeP_bad (s := (pAlt (pSeq (pPost n)) s.adv).2) h (fun t ht => ha.pos t (f3 t (g5 t ht))) g1
     have hcll : (closeP (pAlt (pSeq (pPost n)) s.adv).2).l.length = (pAlt (pSeq (pPost n)) s.adv).2.l.length := by rw [hcl]
     refine code_seq ?_
     refine code_seq ?_
     refine code_ops _ rfl ?_
     refine ol_pure rfl rfl rfl (pure_move rfl rfl) ?_
     refine ol_pure rfl rfl rfl (pure_nilbox rfl rfl rfl) ?_
     refine ol_pure rfl rfl rfl (pure_field_box rfl fd73_1 rfl rfl) ?_
     refine ol_pure rfl rfl rfl (pure_load_box rfl ag3 rfl rfl rfl) ?_
     refine ol_pure rfl rfl rfl (pure_geq rfl rfl rfl) ?_
     refine ol_nil ?_
     refine spk 98 [(0,_),(2,_),(4,_),(47,_)] [(2,_),(4,_),(1000001,_)] rfl rfl rfl ?_
     refine code_cond rfl (fun h4 => ?_) (fun h4 => ?_)
     ·try simp only [dq] at h4
      refine code_seq ?_
      refine code_ops _ rfl ?_
      refine ol_pure rfl rfl rfl (pure_load_box_agg rfl ag25 sz25 rfl rfl rfl rfl) ?_
      refine ol_step rfl (step_store_box rfl rfl rfl sz25 rfl rfl rfl rfl (by decide) rfl rfl hM0) ?_
      refine ol_nil ?_
      refine spk 98 [(2,_)] [(2,_),(1000001,_)] rfl rfl rfl ?_
      refine code_ret ?_
      refine seqQ_ret ?_
      refine cutQ_ret ?_
      refine endOC_ret (o1 := [(1000001, _)]) rfl ⟨rfl, trivial⟩ ?_
      rw [pPost_40e (by unfold PS.hd; omega) h4]; exact ⟨rfl, rfl⟩
     ·try simp only [dq] at h4
      refine code_skip ?_
      refine spk 98 [(0,_),(2,_),(4,_)] [(2,_),(4,_),(1000001,_)] rfl rfl rfl ?_
      refine code_ops _ rfl ?_
      refine ol_pure rfl rfl rfl (pure_move rfl rfl) ?_
      refine ol_pure rfl rfl rfl (pure_move rfl rfl) ?_
      refine ol_pure rfl rfl rfl (pure_nilbox rfl rfl rfl) ?_
      refine ol_pure rfl rfl rfl (pure_field_box rfl fd73_0 rfl rfl) ?_
      refine ol_pure rfl rfl rfl (pure_load_box rfl ag70 rfl rfl rfl) ?_
      refine ol_pure rfl rfl rfl (pure_slice_lm rfl Tryz.underlying70 sz76 rfl rfl (by first | (simp only [ll]; omega) | omega) (fun _ => rfl)) ?_
      refine ol_pure rfl rfl rfl (pure_nilbox rfl rfl rfl) ?_
      refine ol_pure rfl rfl rfl (pure_field_box rfl fd73_0 rfl rfl) ?_
      refine ol_step rfl (step_store_box rfl rfl rfl sz70 rfl rfl rfl rfl (by decide) rfl rfl hM0) ?_
      refine ol_nil ?_
      refine cut_next (n := 98) (l := [(0, _), (2, _), (4, _)]) (o' := [(2, _), (4, _), (1000001, _)]) rfl ⟨rfl, rfl, rfl, trivial⟩ ⟨rfl, rfl, rfl, trivial⟩ ?_
      have h40 : s.hd = 40 := by unfold PS.hd; omega
      obtain ⟨e2, h41⟩ := hcb (by omega)
      obtain ⟨k1, k2⟩ := endT_adv g1 (by omega)
      have hw2 := wt_adv g1.1
      exact ⟨(closeP (pAlt (pSeq (pPost n)) s.adv).2).adv, (pAlt (pSeq (pPost n)) s.adv).1, ⟨by rw [e2]; exact k1, by rw [e2]; exact ha.sub fun t ht => f3 t (g5 t (List.mem_of_mem_drop ht))⟩, by rw [e2]; omega, g4, (pPost_40 h40 (by omega)).symm, rfl⟩
   ·try simp only [dq] at h1
    refine code_skip ?_
    refine cut_next (n := 98) (l := [(0, _), (2, _), (4, _)]) (o' := [(2, _), (4, _), (1000001, _)]) rfl ⟨rfl, rfl, rfl, trivial⟩ ⟨rfl, rfl, rfl, trivial⟩ ?_
    exact ⟨s.adv, (s.l.getD 0 default).atom, ⟨f1, ha.sub f3⟩, by omega, ha.nf _ (by rw [getD_el f0]; exact List.getElem_mem f0), (pPost_x (by unfold PS.hd; omega)).symm, rfl⟩
  ·rintro zs ⟨z, x, hC11_0, hC11_1, hC11_2, hC11_3, rfl⟩
   refine code_seq ?_
   refine code_block ?_
   refine code_loopM (fun zm zs => ∃ (z : PS) (k : Nat) (x : Rx), zm = z.l.length ∧ (endT z.l ∧ z.l.length ≤ k ∧ TokOk z.l) ∧ (x.size + wtT z.l ≤ wtT s.l) ∧ (Nf x) ∧ (starLp k z x = pPost (n + 1) s) ∧ zs = ⟨98, [(0, .pbox 1000001 0), (2, .pbox 2 0), (4, .pbox 4 0)], [(2, .box 25 [.v .pl (.sc (.int .i64 0)), .v .pl (.sc (.slice none 0 0)), .v .pl (.sc (.slice none 0 0))]), (4, .box 25 [.v .pl (int (x).kind), .v .pl (ints (x).syms), .v .pl (.sl (Rx.avs (x).kids))]), (1000001, .box 73 [.v .pl (toks (z).l), .v .pl (int (z).bad)])]⟩) (loop_init (n := 98) (l := [(0, _), (2, _), (4, _)]) (o' := [(2, _), (4, _), (1000001, _)]) rfl ⟨rfl, rfl, rfl, trivial⟩ ⟨rfl, rfl, rfl, trivial⟩ ?_) ?_
   ·exact ⟨_, z, z.l.length, x, rfl, ⟨hC11_0.1, Nat.le_refl _, hC11_0.2⟩, hC11_1, hC11_2, hC11_3, rfl⟩
   ·rintro zm zs ⟨z, k, x, rfl, hL1_0, hL1_1, hL1_2, hL1_3, rfl⟩
    obtain ⟨hz1, hz2, hz3⟩ := hL1_0
    have hz0 := hz1.1
    have hwz := wt_adv hz1.1
    have hadv := fun h => endT_adv hz1 h
    have hsub : ∀ t ∈ z.adv.l, t ∈ z.l := fun t ht => List.mem_of_mem_drop ht
    have hxo := size_opt x
    have hxs := size_starN x
    refine code_seq ?_
    refine code_seq ?_
    refine code_ops _ rfl ?_
    refine ol_pure rfl rfl rfl (pure_move rfl rfl) ?_
    refine ol_pure rfl rfl rfl (pure_nilbox rfl rfl rfl) ?_
    refine ol_pure rfl rfl rfl (pure_field_box rfl fd73_0 rfl rfl) ?_
    refine ol_pure rfl rfl rfl (pure_load_box rfl ag70 rfl rfl rfl) ?_
    first | refine ol_pure rfl rfl rfl (pure_indexn rfl Tryz.underlying70 sz76 rfl rfl (by omega) (fun _ => rfl)) ?_ | refine ol_pure rfl rfl rfl (pure_indexm rfl Tryz.underlying70 sz76 rfl rfl (by omega) (fun _ => rfl)) ?_
    refine ol_pure rfl rfl rfl (pure_field rfl fd76_0 rfl) ?_
    refine ol_pure rfl rfl rfl (pure_load rfl ag5 rfl rfl) ?_
    refine opk 98 [(0,_),(2,_),(4,_),(63,_)] [(2,_),(4,_),(1000001,_)] rfl rfl rfl ?_
    refine ol_pure rfl rfl rfl (pure_eql rfl rfl rfl) ?_
    refine ol_pure rfl rfl rfl (pure_move rfl rfl) ?_
    refine ol_guard rfl (fun h5 => ?_) (fun h5 => ?_)
    ·have h5' := h5; try simp only [dq] at h5'
     refine ol_skip_g rfl rfl h5 rfl rfl ?_
     refine ol_skip_g rfl rfl h5 rfl rfl ?_
     refine ol_skip_g rfl rfl h5 rfl rfl ?_
     refine ol_skip_g rfl rfl h5 rfl rfl ?_
     refine ol_skip_g rfl rfl h5 rfl rfl ?_
     refine opk 98 [(0,_),(2,_),(4,_),(65,_),(70,_)] [(2,_),(4,_),(1000001,_)] rfl rfl rfl ?_
     refine ol_skip_g rfl rfl h5 rfl rfl ?_
     refine ol_skip_g rfl rfl h5 rfl rfl ?_
     refine ol_skip_g rfl rfl h5 rfl rfl ?_
     refine ol_pure rfl rfl rfl (pure_pick_t rfl rfl h5 rfl) ?_
     refine ol_nil ?_
     refine spk 98 [(0,_),(2,_),(4,_),(74,_)] [(2,_),(4,_),(1000001,_)] rfl rfl rfl ?_
     refine code_cond_t rfl ?_
     refine code_skip ?_
     refine spk 98 [(0,_),(2,_),(4,_)] [(2,_),(4,_),(1000001,_)] rfl rfl rfl ?_
     refine code_seq ?_
     refine code_block ?_
     refine code_seq ?_
     refine code_ops _ rfl ?_
     refine ol_pure rfl rfl rfl (pure_move rfl rfl) ?_
     refine ol_pure rfl rfl rfl (pure_nilbox rfl rfl rfl) ?_
     refine ol_pure rfl rfl rfl (pure_field_box rfl fd73_0 rfl rfl) ?_
     refine ol_pure rfl rfl rfl (pure_load_box rfl ag70 rfl rfl rfl) ?_
     first | refine ol_pure rfl rfl rfl (pure_indexn rfl Tryz.underlying70 sz76 rfl rfl (by omega) (fun _ => rfl)) ?_ | refine ol_pure rfl rfl rfl (pure_indexm rfl Tryz.underlying70 sz76 rfl rfl (by omega) (fun _ => rfl)) ?_
     refine ol_pure rfl rfl rfl (pure_field rfl fd76_0 rfl) ?_
     refine ol_pure rfl rfl rfl (pure_load rfl ag5 rfl rfl) ?_
     refine ol_pure rfl rfl rfl (pure_eql rfl rfl rfl) ?_
     refine ol_nil ?_
     refine spk 98 [(0,_),(2,_),(4,_),(90,_)] [(2,_),(4,_),(1000001,_)] rfl rfl rfl ?_
     refine code_cond rfl (fun h6 => ?_) (fun h6 => ?_)
     ·try simp only [dq] at h6
      refine code_ops _ rfl ?_
      refine ol_pure rfl rfl rfl (pure_load_box_agg rfl ag25 sz25 rfl rfl rfl rfl) ?_
      refine ol_pure rfl rfl rfl (pure_callN rfl rfl rfl rfl (star_call (x := x) (fun h4 => by have := (hL1_2.k4 h4).2.1; omega)) hM0) ?_
      refine ol_step rfl (step_store_box rfl rfl rfl sz25 rfl rfl rfl rfl (by decide) rfl rfl hM0) ?_
      refine ol_nil ?_
      refine blockQ_normal ?_
      refine spk 98 [(0,_),(2,_),(4,_)] [(2,_),(4,_),(1000001,_)] rfl rfl rfl ?_
      refine code_ops _ rfl ?_
      refine ol_pure rfl rfl rfl (pure_move rfl rfl) ?_
      refine ol_pure rfl rfl rfl (pure_move rfl rfl) ?_
      refine ol_pure rfl rfl rfl (pure_nilbox rfl rfl rfl) ?_
      refine ol_pure rfl rfl rfl (pure_field_box rfl fd73_0 rfl rfl) ?_
      refine ol_pure rfl rfl rfl (pure_load_box rfl ag70 rfl rfl rfl) ?_
      refine ol_pure rfl rfl rfl (pure_slice_lm rfl Tryz.underlying70 sz76 rfl rfl (by first | (simp only [ll]; omega) | omega) (fun _ => rfl)) ?_
      refine ol_pure rfl rfl rfl (pure_nilbox rfl rfl rfl) ?_
      refine ol_pure rfl rfl rfl (pure_field_box rfl fd73_0 rfl rfl) ?_
      refine ol_step rfl (step_store_box rfl rfl rfl sz70 rfl rfl rfl rfl (by decide) rfl rfl hM0) ?_
      refine ol_nil ?_
      refine loop_next (n := 98) (l := [(0, _), (2, _), (4, _)]) (o' := [(2, _), (4, _), (1000001, _)]) rfl ⟨rfl, rfl, rfl, trivial⟩ ⟨rfl, rfl, rfl, trivial⟩ ?_
      obtain ⟨a1, a2⟩ := hadv (by unfold PS.hd; omega)
      obtain ⟨k, rfl⟩ : ∃ k', k = k' + 1 := ⟨k - 1, by omega⟩
      exact ⟨_, ⟨z.adv, k, starN x, rfl, ⟨a1, by omega, hz3.sub hsub⟩, by omega, starN_nf hL1_2, by rw [← hL1_3, starLp_star (by unfold PS.hd; omega)], rfl⟩, by omega⟩
     ·try simp only [dq] at h6
      refine code_ops _ rfl ?_
      refine ol_pure rfl rfl rfl (pure_norm (pure_build rfl pl25 ze25 rfl rfl rfl) rfl) ?_
      refine ol_pure rfl rfl rfl (pure_load_box_agg rfl ag25 sz25 rfl rfl rfl rfl) ?_
      refine ol_pure rfl rfl rfl (pure_lit rfl Tryz.underlying23 el25 rfl rfl rfl rfl hM0) ?_
      refine ol_pure rfl rfl rfl (pure_callN rfl rfl rfl rfl (alt_call (l := [emptyRx, x]) (by simp only [Rx.sizes, size_mk, List.length_nil]; omega)) hM0) ?_
      refine ol_step rfl (step_store_box rfl rfl rfl sz25 rfl rfl rfl rfl (by decide) rfl rfl hM0) ?_
      refine ol_nil ?_
      refine blockQ_normal ?_
      refine spk 98 [(0,_),(2,_),(4,_)] [(2,_),(4,_),(1000001,_)] rfl rfl rfl ?_
      refine code_ops _ rfl ?_
      refine ol_pure rfl rfl rfl (pure_move rfl rfl) ?_
      refine ol_pure rfl rfl rfl (pure_move rfl rfl) ?_
      refine ol_pure rfl rfl rfl (pure_nilbox rfl rfl rfl) ?_
      refine ol_pure rfl rfl rfl (pure_field_box rfl fd73_0 rfl rfl) ?_
      refine ol_pure rfl rfl rfl (pure_load_box rfl ag70 rfl rfl rfl) ?_
      refine ol_pure rfl rfl rfl (pure_slice_lm rfl Tryz.underlying70 sz76 rfl rfl (by first | (simp only [ll]; omega) | omega) (fun _ => rfl)) ?_
      refine ol_pure rfl rfl rfl (pure_nilbox rfl rfl rfl) ?_
      refine ol_pure rfl rfl rfl (pure_field_box rfl fd73_0 rfl rfl) ?_
      refine ol_step rfl (step_store_box rfl rfl rfl sz70 rfl rfl rfl rfl (by decide) rfl rfl hM0) ?_
      refine ol_nil ?_
      refine loop_next (n := 98) (l := [(0, _), (2, _), (4, _)]) (o' := [(2, _), (4, _), (1000001, _)]) rfl ⟨rfl, rfl, rfl, trivial⟩ ⟨rfl, rfl, rfl, trivial⟩ ?_
      omega
    ·have h5' := h5; try simp only [dq] at h5'
     refine ol_pure_g rfl rfl h5 rfl rfl (pure_move rfl rfl) ?_
     refine ol_pure_g rfl rfl h5 rfl rfl (pure_nilbox rfl rfl rfl) ?_
     refine ol_pure_g rfl rfl h5 rfl rfl (pure_field_box rfl fd73_0 rfl rfl) ?_
     refine ol_pure_g rfl rfl h5 rfl rfl (pure_load_box rfl ag70 rfl rfl rfl) ?_
     first | refine ol_pure_g rfl rfl h5 rfl rfl (pure_indexn rfl Tryz.underlying70 sz76 rfl rfl (by omega) (fun _ => rfl)) ?_ | refine ol_pure_g rfl rfl h5 rfl rfl (pure_indexm rfl Tryz.underlying70 sz76 rfl rfl (by omega) (fun _ => rfl)) ?_
     refine opk 98 [(0,_),(2,_),(4,_),(65,_),(70,_)] [(2,_),(4,_),(1000001,_)] rfl rfl rfl ?_
     refine ol_pure_g rfl rfl h5 rfl rfl (pure_field rfl fd76_0 rfl) ?_
     refine ol_pure_g rfl rfl h5 rfl rfl (pure_load rfl ag5 rfl rfl) ?_
     refine ol_pure_g rfl rfl h5 rfl rfl (pure_eql rfl rfl rfl) ?_
     refine ol_pure rfl rfl rfl (pure_pick_f rfl rfl h5 rfl) ?_
     refine ol_nil ?_
     refine spk 98 [(0,_),(2,_),(4,_),(74,_)] [(2,_),(4,_),(1000001,_)] rfl rfl rfl ?_
     refine code_cond rfl (fun h7 => ?_) (fun h7 => ?_)
     ·try simp only [dq] at h7
      refine code_skip ?_
      refine spk 98 [(0,_),(2,_),(4,_)] [(2,_),(4,_),(1000001,_)] rfl rfl rfl ?_
      refine code_seq ?_
      refine code_block ?_
      refine code_seq ?_
      refine code_ops _ rfl ?_
      refine ol_pure rfl rfl rfl (pure_move rfl rfl) ?_
      refine ol_pure rfl rfl rfl (pure_nilbox rfl rfl rfl) ?_
      refine ol_pure rfl rfl rfl (pure_field_box rfl fd73_0 rfl rfl) ?_
      refine ol_pure rfl rfl rfl (pure_load_box rfl ag70 rfl rfl rfl) ?_
      first | refine ol_pure rfl rfl rfl (pure_indexn rfl Tryz.underlying70 sz76 rfl rfl (by omega) (fun _ => rfl)) ?_ | refine ol_pure rfl rfl rfl (pure_indexm rfl Tryz.underlying70 sz76 rfl rfl (by omega) (fun _ => rfl)) ?_
      refine ol_pure rfl rfl rfl (pure_field rfl fd76_0 rfl) ?_
      refine ol_pure rfl rfl rfl (pure_load rfl ag5 rfl rfl) ?_
      refine ol_pure rfl rfl rfl (pure_eql rfl rfl rfl) ?_
      refine ol_nil ?_
      refine spk 98 [(0,_),(2,_),(4,_),(90,_)] [(2,_),(4,_),(1000001,_)] rfl rfl rfl ?_
      refine code_cond rfl (fun h8 => ?_) (fun h8 => ?_)
      ·try simp only [dq] at h8
       refine code_ops _ rfl ?_
       refine ol_pure rfl rfl rfl (pure_load_box_agg rfl ag25 sz25 rfl rfl rfl rfl) ?_
       refine ol_pure rfl rfl rfl (pure_callN rfl rfl rfl rfl (star_call (x := x) (fun h4 => by have := (hL1_2.k4 h4).2.1; omega)) hM0) ?_
       refine ol_step rfl (step_store_box rfl rfl rfl sz25 rfl rfl rfl rfl (by decide) rfl rfl hM0) ?_
       refine ol_nil ?_
       refine blockQ_normal ?_
       refine spk 98 [(0,_),(2,_),(4,_)] [(2,_),(4,_),(1000001,_)] rfl rfl rfl ?_
       refine code_ops _ rfl ?_
       refine ol_pure rfl rfl rfl (pure_move rfl rfl) ?_
       refine ol_pure rfl rfl rfl (pure_move rfl rfl) ?_
       refine ol_pure rfl rfl rfl (pure_nilbox rfl rfl rfl) ?_
       refine ol_pure rfl rfl rfl (pure_field_box rfl fd73_0 rfl rfl) ?_
       refine ol_pure rfl rfl rfl (pure_load_box rfl ag70 rfl rfl rfl) ?_
       refine ol_pure rfl rfl rfl (pure_slice_lm rfl Tryz.underlying70 sz76 rfl rfl (by first | (simp only [ll]; omega) | omega) (fun _ => rfl)) ?_
       refine ol_pure rfl rfl rfl (pure_nilbox rfl rfl rfl) ?_
       refine ol_pure rfl rfl rfl (pure_field_box rfl fd73_0 rfl rfl) ?_
       refine ol_step rfl (step_store_box rfl rfl rfl sz70 rfl rfl rfl rfl (by decide) rfl rfl hM0) ?_
       refine ol_nil ?_
       refine loop_next (n := 98) (l := [(0, _), (2, _), (4, _)]) (o' := [(2, _), (4, _), (1000001, _)]) rfl ⟨rfl, rfl, rfl, trivial⟩ ⟨rfl, rfl, rfl, trivial⟩ ?_
       omega
      ·try simp only [dq] at h8
       refine code_ops _ rfl ?_
       refine ol_pure rfl rfl rfl (pure_norm (pure_build rfl pl25 ze25 rfl rfl rfl) rfl) ?_
       refine ol_pure rfl rfl rfl (pure_load_box_agg rfl ag25 sz25 rfl rfl rfl rfl) ?_
       refine ol_pure rfl rfl rfl (pure_lit rfl Tryz.underlying23 el25 rfl rfl rfl rfl hM0) ?_
       refine ol_pure rfl rfl rfl (pure_callN rfl rfl rfl rfl (alt_call (l := [emptyRx, x]) (by simp only [Rx.sizes, size_mk, List.length_nil]; omega)) hM0) ?_
       refine ol_step rfl (step_store_box rfl rfl rfl sz25 rfl rfl rfl rfl (by decide) rfl rfl hM0) ?_
       refine ol_nil ?_
       refine blockQ_normal ?_
       refine spk 98 [(0,_),(2,_),(4,_)] [(2,_),(4,_),(1000001,_)] rfl rfl rfl ?_
       refine code_ops _ rfl ?_
       refine ol_pure rfl rfl rfl (pure_move rfl rfl) ?_
       refine ol_pure rfl rfl rfl (pure_move rfl rfl) ?_
       refine ol_pure rfl rfl rfl (pure_nilbox rfl rfl rfl) ?_
       refine ol_pure rfl rfl rfl (pure_field_box rfl fd73_0 rfl rfl) ?_
       refine ol_pure rfl rfl rfl (pure_load_box rfl ag70 rfl rfl rfl) ?_
       refine ol_pure rfl rfl rfl (pure_slice_lm rfl Tryz.underlying70 sz76 rfl rfl (by first | (simp only [ll]; omega) | omega) (fun _ => rfl)) ?_
       refine ol_pure rfl rfl rfl (pure_nilbox rfl rfl rfl) ?_
       refine ol_pure rfl rfl rfl (pure_field_box rfl fd73_0 rfl rfl) ?_
       refine ol_step rfl (step_store_box rfl rfl rfl sz70 rfl rfl rfl rfl (by decide) rfl rfl hM0) ?_
       refine ol_nil ?_
       refine loop_next (n := 98) (l := [(0, _), (2, _), (4, _)]) (o' := [(2, _), (4, _), (1000001, _)]) rfl ⟨rfl, rfl, rfl, trivial⟩ ⟨rfl, rfl, rfl, trivial⟩ ?_
       obtain ⟨a1, a2⟩ := hadv (by unfold PS.hd; omega)
       obtain ⟨k, rfl⟩ : ∃ k', k = k' + 1 := ⟨k - 1, by omega⟩
       exact ⟨_, ⟨z.adv, k, altN [emptyRx, x], rfl, ⟨a1, by omega, hz3.sub hsub⟩, by omega, altN_nf (fun y hy => by
         rcases List.mem_cons.1 hy with rfl | hy
         · exact .empty
         · rw [List.mem_singleton.1 hy]; exact hL1_2), by rw [← hL1_3, starLp_opt (by unfold PS.hd; omega)], rfl⟩, by omega⟩
     ·try simp only [dq] at h7
      refine code_exit ?_
      refine seqQ_exit ?_
      refine loopM_exit ?_
      refine blockQ_same ?_
      refine spk 98 [(2,_),(4,_)] [(2,_),(4,_),(1000001,_)] rfl rfl rfl ?_
      refine code_seq ?_
      refine code_ops _ rfl ?_
      refine ol_pure rfl rfl rfl (pure_load_box_agg rfl ag25 sz25 rfl rfl rfl rfl) ?_
      refine ol_step rfl (step_store_box rfl rfl rfl sz25 rfl rfl rfl rfl (by decide) rfl rfl hM0) ?_
      refine ol_nil ?_
      refine spk 98 [(2,_)] [(2,_),(1000001,_)] rfl rfl rfl ?_
      refine code_ret ?_
      refine endOC_ret (o1 := [(1000001, _)]) rfl ⟨rfl, trivial⟩ ?_
      rw [← hL1_3, starLp_stop (by unfold PS.hd; omega) (by unfold PS.hd; omega)]; exact ⟨rfl, rfl⟩
theorem post_calls : ∀ n, PostC n
  | 0 => fun s hn he _ _ _ _ => by have := he.1; omega
  | n + 1 => ppost_call (palt_call (pseq_call (post_calls n)))
theorem alt_calls (n : Nat) : AltC n := palt_call (pseq_call (post_calls n))
end Go.Proofs.YtgdehkimfmfofaaGreat

