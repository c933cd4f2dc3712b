/-
  Contracts: the program's validity, and whether an expression has the empty word.
-/
import Derived.Test.YtgdehkimfmfofaaGreatJ24
set_option linter.unusedVariables false
set_option linter.unusedSimpArgs false
namespace Go.Proofs.YtgdehkimfmfofaaGreat
open Go.Am Go.Wb
set_option linter.unusedVariables false
set_option linter.unusedSimpArgs false

theorem fn46 : Fn1 Tryz.prog 46 Tryz.f46.ntmps 2 (Tryz.f46.body.getD .skip) := ⟨Tryz.f46, Tryz.func46, rfl, rfl, rfl, by kernel_rfl⟩
set_option maxRecDepth 100000 in
set_option maxHeartbeats 4000000 in
theorem validN_call {x : Rx} (h : CallF Tryz.prog 14 [rx x] (.p (bool (validR x)))) : CallF Tryz.prog 46 [rx x] (.p (bool (!validR x))) := by
  refine callF_of_code fn46 (Nat.le_of_ble_eq_true rfl) fun w0 M0 hM0 => ?_
  refine code_seq ?_
  refine code_ops _ rfl ?_
  refine ol_pure rfl rfl rfl (pure_box rfl rfl rfl hM0) ?_
  refine ol_pure rfl rfl rfl (pure_assign rfl rfl) ?_
  refine ol_nil ?_
  refine spk 6 [(1,_)] [] rfl rfl rfl ?_
  refine code_seq ?_
  refine code_ops _ rfl ?_
  refine ol_pure rfl rfl rfl (pure_load_agg rfl ag25 sz25 rfl (Nat.le_of_ble_eq_true rfl)) ?_
  refine ol_pure rfl rfl rfl (pure_call rfl rfl rfl (h) hM0) ?_
  refine ol_pure rfl rfl rfl (pure_not rfl rfl) ?_
  refine ol_pure rfl rfl rfl (pure_assign rfl rfl) ?_
  refine ol_nil ?_
  refine spk 6 [(2,_)] [] rfl rfl rfl ?_
  refine code_ret ?_
  refine end_ret rfl ?_
  rfl

theorem fn14 : Fn1 Tryz.prog 14 Tryz.f14.ntmps 2 (Tryz.f14.body.getD .skip) := ⟨Tryz.f14, Tryz.func14, rfl, rfl, rfl, by kernel_rfl⟩
set_option maxRecDepth 100000 in
set_option maxHeartbeats 4000000 in
theorem valid_call : ∀ (m : Nat) (r : Rx), r.size ≤ m → m ≤ 1099511627776 → CallF Tryz.prog 14 [rx r] (.p (bool (validR r))) := by
  intro m
  induction m with
  | zero => intro a hr _; have := size_pos a; omega
  | succ m ih =>
  intro r hr hm
  have hkl := kids_len r
  have hsl := syms_len r
  rw [rx_eq r]
  refine callF_of_code fn14 (Nat.le_of_ble_eq_true rfl) fun w0 M0 hM0 => ?_
  refine code_seq ?_
  refine code_ops _ rfl ?_
  refine ol_pure rfl rfl rfl (pure_box rfl rfl rfl hM0) ?_
  refine ol_pure rfl rfl rfl (pure_assign rfl rfl) ?_
  refine ol_nil ?_
  refine spk 61 [(1,_)] [] rfl rfl rfl ?_
  refine code_seq ?_
  refine code_seq ?_
  refine code_ops _ rfl ?_
  refine ol_pure rfl rfl rfl (pure_field rfl fd25_0 rfl) ?_
  refine ol_pure rfl rfl rfl (pure_load rfl ag3 rfl rfl) ?_
  refine ol_nil ?_
  refine spk 61 [(1,_),(4,_)] [] rfl rfl rfl ?_
  refine code_block ?_
  refine code_seq ?_
  refine code_seq ?_
  refine code_ops _ rfl ?_
  refine ol_pure rfl rfl rfl (pure_eql rfl rfl rfl) ?_
  refine ol_pure rfl rfl rfl (pure_assign rfl rfl) ?_
  refine ol_nil ?_
  refine spk 61 [(1,_),(4,_),(5,_)] [] rfl rfl rfl ?_
  refine code_cond rfl (fun h1 => ?_) (fun h1 => ?_)
  ·try simp only [dq] at h1
   refine code_skip ?_
   refine spk 61 [(1,_),(4,_),(5,_)] [] rfl rfl rfl ?_
   refine code_cond rfl (fun h2 => ?_) (fun h2 => ?_)
   ·try simp only [dq] at h2
    refine code_seq ?_
    refine code_ops _ rfl ?_
    refine ol_pure rfl rfl rfl (pure_field rfl fd25_1 rfl) ?_
    refine ol_pure rfl rfl rfl (pure_load rfl ag22 rfl rfl) ?_
    refine ol_pure rfl rfl rfl (pure_lenm rfl Tryz.underlying22 rfl) ?_
    refine ol_pure rfl rfl rfl (pure_eql rfl rfl rfl) ?_
    refine ol_pure rfl rfl rfl (pure_move rfl rfl) ?_
    refine ol_guard rfl (fun h3 => ?_) (fun h3 => ?_)
    ·have h3' := h3; try simp only [dq] at h3'
     refine ol_pure_g rfl rfl h3 rfl rfl (pure_field rfl fd25_2 rfl) ?_
     refine ol_pure_g rfl rfl h3 rfl rfl (pure_load rfl ag23 rfl rfl) ?_
     refine opk 61 [(12,_),(14,_)] [] rfl rfl rfl ?_
     refine ol_pure_g rfl rfl h3 rfl rfl (pure_lenm rfl Tryz.underlying23 rfl) ?_
     refine ol_pure_g rfl rfl h3 rfl rfl (pure_eql rfl rfl rfl) ?_
     refine ol_pure rfl rfl rfl (pure_pick_t rfl rfl h3 rfl) ?_
     refine ol_pure rfl rfl rfl (pure_assign rfl rfl) ?_
     refine ol_nil ?_
     refine spk 61 [(2,_)] [] rfl rfl rfl ?_
     refine code_ret ?_
     refine blockQ_ret ?_
     refine seqQ_ret ?_
     refine end_ret rfl ?_
     first | (rw [validR_01 (r := r) (by omega)]; simp_all; done) | (rw [validR_2 (r := r) (by omega)]; simp_all; done) | (rw [validR_5 (r := r) (by omega), decide_eq_true (p := r.syms.length = 0) (by omega), decide_eq_true (p := r.kids.length = 1) (by omega)]; first | rfl | (simp_all; done)) | (rw [validR_5 (r := r) (by omega), decide_eq_false (p := r.kids.length = 1) (by omega), Bool.false_and, Bool.and_false]; first | done | rfl | (simp_all; done)) | (rw [validR_5 (r := r) (by omega), decide_eq_false (p := r.syms.length = 0) (by omega), Bool.false_and]; first | done | rfl | (simp_all; done)) | (rw [validR_34 (r := r) (by omega)]; simp_all; done) | (rw [validR_no (r := r) (by omega)]; done)
    ·have h3' := h3; try simp only [dq] at h3'
     refine ol_skip_g rfl rfl h3 rfl rfl ?_
     refine ol_skip_g rfl rfl h3 rfl rfl ?_
     refine opk 61 [(12,_),(14,_)] [] rfl rfl rfl ?_
     refine ol_skip_g rfl rfl h3 rfl rfl ?_
     refine ol_skip_g rfl rfl h3 rfl rfl ?_
     refine ol_pure rfl rfl rfl (pure_pick_f rfl rfl h3 rfl) ?_
     refine ol_pure rfl rfl rfl (pure_assign rfl rfl) ?_
     refine ol_nil ?_
     refine spk 61 [(2,_)] [] rfl rfl rfl ?_
     refine code_ret ?_
     refine blockQ_ret ?_
     refine seqQ_ret ?_
     refine end_ret rfl ?_
     first | (rw [validR_01 (r := r) (by omega)]; simp_all; done) | (rw [validR_2 (r := r) (by omega)]; simp_all; done) | (rw [validR_5 (r := r) (by omega), decide_eq_true (p := r.syms.length = 0) (by omega), decide_eq_true (p := r.kids.length = 1) (by omega)]; first | rfl | (simp_all; done)) | (rw [validR_5 (r := r) (by omega), decide_eq_false (p := r.kids.length = 1) (by omega), Bool.false_and, Bool.and_false]; first | done | rfl | (simp_all; done)) | (rw [validR_5 (r := r) (by omega), decide_eq_false (p := r.syms.length = 0) (by omega), Bool.false_and]; first | done | rfl | (simp_all; done)) | (rw [validR_34 (r := r) (by omega)]; simp_all; done) | (rw [validR_no (r := r) (by omega)]; done)
   ·try simp only [dq] at h2
    refine code_seq ?_
    refine code_ops _ rfl ?_
    refine ol_pure rfl rfl rfl (pure_eql rfl rfl rfl) ?_
    refine ol_pure rfl rfl rfl (pure_assign rfl rfl) ?_
    refine ol_nil ?_
    refine spk 61 [(1,_),(4,_),(18,_)] [] rfl rfl rfl ?_
    refine code_cond rfl (fun h4 => ?_) (fun h4 => ?_)
    ·try simp only [dq] at h4
     refine code_seq ?_
     refine code_ops _ rfl ?_
     refine ol_pure rfl rfl rfl (pure_field rfl fd25_2 rfl) ?_
     refine ol_pure rfl rfl rfl (pure_load rfl ag23 rfl rfl) ?_
     refine ol_pure rfl rfl rfl (pure_lenm rfl Tryz.underlying23 rfl) ?_
     refine ol_pure rfl rfl rfl (pure_eql rfl rfl rfl) ?_
     refine ol_pure rfl rfl rfl (pure_move rfl rfl) ?_
     refine ol_guard rfl (fun h5 => ?_) (fun h5 => ?_)
     ·have h5' := h5; try simp only [dq] at h5'
      refine ol_pure_g rfl rfl h5 rfl rfl (pure_field rfl fd25_1 rfl) ?_
      refine ol_pure_g rfl rfl h5 rfl rfl (pure_load rfl ag22 rfl rfl) ?_
      refine ol_pure_g rfl rfl h5 rfl rfl (pure_call rfl rfl rfl (set_call (by omega)) hM0) ?_
      refine ol_pure rfl rfl rfl (pure_pick_t rfl rfl h5 rfl) ?_
      refine ol_pure rfl rfl rfl (pure_assign rfl rfl) ?_
      refine ol_nil ?_
      refine spk 61 [(2,_)] [] rfl rfl rfl ?_
      refine code_ret ?_
      refine blockQ_ret ?_
      refine seqQ_ret ?_
      refine end_ret rfl ?_
      first | (rw [validR_01 (r := r) (by omega)]; simp_all; done) | (rw [validR_2 (r := r) (by omega)]; simp_all; done) | (rw [validR_5 (r := r) (by omega), decide_eq_true (p := r.syms.length = 0) (by omega), decide_eq_true (p := r.kids.length = 1) (by omega)]; first | rfl | (simp_all; done)) | (rw [validR_5 (r := r) (by omega), decide_eq_false (p := r.kids.length = 1) (by omega), Bool.false_and, Bool.and_false]; first | done | rfl | (simp_all; done)) | (rw [validR_5 (r := r) (by omega), decide_eq_false (p := r.syms.length = 0) (by omega), Bool.false_and]; first | done | rfl | (simp_all; done)) | (rw [validR_34 (r := r) (by omega)]; simp_all; done) | (rw [validR_no (r := r) (by omega)]; done)
     ·have h5' := h5; try simp only [dq] at h5'
      refine ol_skip_g rfl rfl h5 rfl rfl ?_
      refine ol_skip_g rfl rfl h5 rfl rfl ?_
      refine ol_skip_g rfl rfl h5 rfl rfl ?_
      refine ol_pure rfl rfl rfl (pure_pick_f rfl rfl h5 rfl) ?_
      refine ol_pure rfl rfl rfl (pure_assign rfl rfl) ?_
      refine ol_nil ?_
      refine spk 61 [(2,_)] [] rfl rfl rfl ?_
      refine code_ret ?_
      refine blockQ_ret ?_
      refine seqQ_ret ?_
      refine end_ret rfl ?_
      first | (rw [validR_01 (r := r) (by omega)]; simp_all; done) | (rw [validR_2 (r := r) (by omega)]; simp_all; done) | (rw [validR_5 (r := r) (by omega), decide_eq_true (p := r.syms.length = 0) (by omega), decide_eq_true (p := r.kids.length = 1) (by omega)]; first | rfl | (simp_all; done)) | (rw [validR_5 (r := r) (by omega), decide_eq_false (p := r.kids.length = 1) (by omega), Bool.false_and, Bool.and_false]; first | done | rfl | (simp_all; done)) | (rw [validR_5 (r := r) (by omega), decide_eq_false (p := r.syms.length = 0) (by omega), Bool.false_and]; first | done | rfl | (simp_all; done)) | (rw [validR_34 (r := r) (by omega)]; simp_all; done) | (rw [validR_no (r := r) (by omega)]; done)
    ·try simp only [dq] at h4
     refine code_seq ?_
     refine code_ops _ rfl ?_
     refine ol_pure rfl rfl rfl (pure_eql rfl rfl rfl) ?_
     refine ol_pure rfl rfl rfl (pure_assign rfl rfl) ?_
     refine ol_nil ?_
     refine spk 61 [(1,_),(4,_),(29,_)] [] rfl rfl rfl ?_
     refine code_cond rfl (fun h6 => ?_) (fun h6 => ?_)
     ·try simp only [dq] at h6
      refine code_seq ?_
      refine code_ops _ rfl ?_
      refine ol_pure rfl rfl rfl (pure_field rfl fd25_1 rfl) ?_
      refine ol_pure rfl rfl rfl (pure_load rfl ag22 rfl rfl) ?_
      refine ol_pure rfl rfl rfl (pure_lenm rfl Tryz.underlying22 rfl) ?_
      refine ol_pure rfl rfl rfl (pure_eql rfl rfl rfl) ?_
      refine ol_pure rfl rfl rfl (pure_move rfl rfl) ?_
      refine ol_guard rfl (fun h7 => ?_) (fun h7 => ?_)
      ·have h7' := h7; try simp only [dq] at h7'
       refine ol_pure_g rfl rfl h7 rfl rfl (pure_field rfl fd25_2 rfl) ?_
       refine ol_pure_g rfl rfl h7 rfl rfl (pure_load rfl ag23 rfl rfl) ?_
       refine opk 61 [(1,_),(35,_),(37,_)] [] rfl rfl rfl ?_
       refine ol_pure_g rfl rfl h7 rfl rfl (pure_lenm rfl Tryz.underlying23 rfl) ?_
       refine ol_pure_g rfl rfl h7 rfl rfl (pure_eql rfl rfl rfl) ?_
       refine ol_pure rfl rfl rfl (pure_pick_t rfl rfl h7 rfl) ?_
       refine ol_pure rfl rfl rfl (pure_move rfl rfl) ?_
       refine ol_guard rfl (fun h8 => ?_) (fun h8 => ?_)
       ·have h8' := h8; try simp only [dq] at h8'
        refine ol_pure_g rfl rfl h8 rfl rfl (pure_field rfl fd25_2 rfl) ?_
        refine ol_pure_g rfl rfl h8 rfl rfl (pure_load rfl ag23 rfl rfl) ?_
        first | refine ol_pure_g rfl rfl h8 rfl rfl (pure_indexn rfl Tryz.underlying23 sz25 rfl rfl (by omega) (fun _ => rfl)) ?_ | refine ol_pure_g rfl rfl h8 rfl rfl (pure_indexm rfl Tryz.underlying23 sz25 rfl rfl (by omega) (fun _ => rfl)) ?_
        refine opk 61 [(41,_),(44,_)] [] rfl rfl rfl ?_
        refine ol_pure_g rfl rfl h8 rfl rfl (pure_load_agg rfl ag25 sz25 rfl (Nat.le_of_ble_eq_true rfl)) ?_
        refine ol_pure_g rfl rfl h8 rfl rfl (pure_call rfl rfl rfl (ih _ (Nat.le_of_lt_succ (Nat.lt_of_lt_of_le (kid_lt (by omega)) hr)) (by omega)) hM0) ?_
        refine ol_pure rfl rfl rfl (pure_pick_t rfl rfl h8 rfl) ?_
        refine ol_pure rfl rfl rfl (pure_assign rfl rfl) ?_
        refine ol_nil ?_
        refine spk 61 [(2,_)] [] rfl rfl rfl ?_
        refine code_ret ?_
        refine blockQ_ret ?_
        refine seqQ_ret ?_
        refine end_ret rfl ?_
        first | (rw [validR_01 (r := r) (by omega)]; simp_all; done) | (rw [validR_2 (r := r) (by omega)]; simp_all; done) | (rw [validR_5 (r := r) (by omega), decide_eq_true (p := r.syms.length = 0) (by omega), decide_eq_true (p := r.kids.length = 1) (by omega)]; first | rfl | (simp_all; done)) | (rw [validR_5 (r := r) (by omega), decide_eq_false (p := r.kids.length = 1) (by omega), Bool.false_and, Bool.and_false]; first | done | rfl | (simp_all; done)) | (rw [validR_5 (r := r) (by omega), decide_eq_false (p := r.syms.length = 0) (by omega), Bool.false_and]; first | done | rfl | (simp_all; done)) | (rw [validR_34 (r := r) (by omega)]; simp_all; done) | (rw [validR_no (r := r) (by omega)]; done)
       ·have h8' := h8; try simp only [dq] at h8'
        refine ol_skip_g rfl rfl h8 rfl rfl ?_
        refine ol_skip_g rfl rfl h8 rfl rfl ?_
        refine ol_skip_g rfl rfl h8 rfl rfl ?_
        refine opk 61 [(41,_),(44,_)] [] rfl rfl rfl ?_
        refine ol_skip_g rfl rfl h8 rfl rfl ?_
        refine ol_skip_g rfl rfl h8 rfl rfl ?_
        refine ol_pure rfl rfl rfl (pure_pick_f rfl rfl h8 rfl) ?_
        refine ol_pure rfl rfl rfl (pure_assign rfl rfl) ?_
        refine ol_nil ?_
        refine spk 61 [(2,_)] [] rfl rfl rfl ?_
        refine code_ret ?_
        refine blockQ_ret ?_
        refine seqQ_ret ?_
        refine end_ret rfl ?_
        first | (rw [validR_01 (r := r) (by omega)]; simp_all; done) | (rw [validR_2 (r := r) (by omega)]; simp_all; done) | (rw [validR_5 (r := r) (by omega), decide_eq_true (p := r.syms.length = 0) (by omega), decide_eq_true (p := r.kids.length = 1) (by omega)]; first | rfl | (simp_all; done)) | (rw [validR_5 (r := r) (by omega), decide_eq_false (p := r.kids.length = 1) (by omega), Bool.false_and, Bool.and_false]; first | done | rfl | (simp_all; done)) | (rw [validR_5 (r := r) (by omega), decide_eq_false (p := r.syms.length = 0) (by omega), Bool.false_and]; first | done | rfl | (simp_all; done)) | (rw [validR_34 (r := r) (by omega)]; simp_all; done) | (rw [validR_no (r := r) (by omega)]; done)
      ·have h7' := h7; try simp only [dq] at h7'
       refine ol_skip_g rfl rfl h7 rfl rfl ?_
       refine ol_skip_g rfl rfl h7 rfl rfl ?_
       refine opk 61 [(1,_),(35,_),(37,_)] [] rfl rfl rfl ?_
       refine ol_skip_g rfl rfl h7 rfl rfl ?_
       refine ol_skip_g rfl rfl h7 rfl rfl ?_
       refine ol_pure rfl rfl rfl (pure_pick_f rfl rfl h7 rfl) ?_
       refine ol_pure rfl rfl rfl (pure_move rfl rfl) ?_
       refine ol_skip_g rfl rfl rfl rfl rfl ?_
       refine ol_skip_g rfl rfl rfl rfl rfl ?_
       refine ol_skip_g rfl rfl rfl rfl rfl ?_
       refine opk 61 [(41,_),(44,_)] [] rfl rfl rfl ?_
       refine ol_skip_g rfl rfl rfl rfl rfl ?_
       refine ol_skip_g rfl rfl rfl rfl rfl ?_
       refine ol_pure rfl rfl rfl (pure_pick_f rfl rfl rfl rfl) ?_
       refine ol_pure rfl rfl rfl (pure_assign rfl rfl) ?_
       refine ol_nil ?_
       refine spk 61 [(2,_)] [] rfl rfl rfl ?_
       refine code_ret ?_
       refine blockQ_ret ?_
       refine seqQ_ret ?_
       refine end_ret rfl ?_
       first | (rw [validR_01 (r := r) (by omega)]; simp_all; done) | (rw [validR_2 (r := r) (by omega)]; simp_all; done) | (rw [validR_5 (r := r) (by omega), decide_eq_true (p := r.syms.length = 0) (by omega), decide_eq_true (p := r.kids.length = 1) (by omega)]; first | rfl | (simp_all; done)) | (rw [validR_5 (r := r) (by omega), decide_eq_false (p := r.kids.length = 1) (by omega), Bool.false_and, Bool.and_false]; first | done | rfl | (simp_all; done)) | (rw [validR_5 (r := r) (by omega), decide_eq_false (p := r.syms.length = 0) (by omega), Bool.false_and]; first | done | rfl | (simp_all; done)) | (rw [validR_34 (r := r) (by omega)]; simp_all; done) | (rw [validR_no (r := r) (by omega)]; done)
     ·try simp only [dq] at h6
      refine code_seq ?_
      refine code_seq ?_
      refine code_ops _ rfl ?_
      refine ol_pure rfl rfl rfl (pure_eql rfl rfl rfl) ?_
      refine ol_pure rfl rfl rfl (pure_assign rfl rfl) ?_
      refine ol_nil ?_
      refine spk 61 [(1,_),(4,_),(48,_)] [] rfl rfl rfl ?_
      refine code_cond rfl (fun h9 => ?_) (fun h9 => ?_)
      ·try simp only [dq] at h9
       refine code_skip ?_
       refine spk 61 [(1,_),(48,_)] [] rfl rfl rfl ?_
       refine code_cond rfl (fun h10 => ?_) (fun h10 => ?_)
       ·try simp only [dq] at h10
        refine code_seq ?_
        refine code_ops _ rfl ?_
        refine ol_pure rfl rfl rfl (pure_field rfl fd25_1 rfl) ?_
        refine ol_pure rfl rfl rfl (pure_load rfl ag22 rfl rfl) ?_
        refine ol_pure rfl rfl rfl (pure_lenm rfl Tryz.underlying22 rfl) ?_
        refine ol_pure rfl rfl rfl (pure_eql rfl rfl rfl) ?_
        refine ol_pure rfl rfl rfl (pure_move rfl rfl) ?_
        refine ol_guard rfl (fun h11 => ?_) (fun h11 => ?_)
        ·have h11' := h11; try simp only [dq] at h11'
         refine ol_pure_g rfl rfl h11 rfl rfl (pure_field rfl fd25_2 rfl) ?_
         refine ol_pure_g rfl rfl h11 rfl rfl (pure_load rfl ag23 rfl rfl) ?_
         refine opk 61 [(55,_),(57,_)] [] rfl rfl rfl ?_
         refine ol_pure_g rfl rfl h11 rfl rfl (pure_call rfl rfl rfl (hasR_call (p := fun x => !validR x) (by omega) (fun x hx => validN_call (ih _ (Nat.le_of_lt_succ (Nat.lt_of_lt_of_le (size_kid hx) hr)) (by omega)))) hM0) ?_
         refine ol_pure_g rfl rfl h11 rfl rfl (pure_not rfl rfl) ?_
         refine ol_pure rfl rfl rfl (pure_pick_t rfl rfl h11 rfl) ?_
         refine ol_pure rfl rfl rfl (pure_assign rfl rfl) ?_
         refine ol_nil ?_
         refine spk 61 [(2,_)] [] rfl rfl rfl ?_
         refine code_ret ?_
         refine blockQ_ret ?_
         refine seqQ_ret ?_
         refine end_ret rfl ?_
         first | (rw [validR_01 (r := r) (by omega)]; simp_all; done) | (rw [validR_2 (r := r) (by omega)]; simp_all; done) | (rw [validR_5 (r := r) (by omega), decide_eq_true (p := r.syms.length = 0) (by omega), decide_eq_true (p := r.kids.length = 1) (by omega)]; first | rfl | (simp_all; done)) | (rw [validR_5 (r := r) (by omega), decide_eq_false (p := r.kids.length = 1) (by omega), Bool.false_and, Bool.and_false]; first | done | rfl | (simp_all; done)) | (rw [validR_5 (r := r) (by omega), decide_eq_false (p := r.syms.length = 0) (by omega), Bool.false_and]; first | done | rfl | (simp_all; done)) | (rw [validR_34 (r := r) (by omega)]; simp_all; done) | (rw [validR_no (r := r) (by omega)]; done)
        ·have h11' := h11; try simp only [dq] at h11'
         refine ol_skip_g rfl rfl h11 rfl rfl ?_
         refine ol_skip_g rfl rfl h11 rfl rfl ?_
         refine opk 61 [(55,_),(57,_)] [] rfl rfl rfl ?_
         refine ol_skip_g rfl rfl h11 rfl rfl ?_
         refine ol_skip_g rfl rfl h11 rfl rfl ?_
         refine ol_pure rfl rfl rfl (pure_pick_f rfl rfl h11 rfl) ?_
         refine ol_pure rfl rfl rfl (pure_assign rfl rfl) ?_
         refine ol_nil ?_
         refine spk 61 [(2,_)] [] rfl rfl rfl ?_
         refine code_ret ?_
         refine blockQ_ret ?_
         refine seqQ_ret ?_
         refine end_ret rfl ?_
         first | (rw [validR_01 (r := r) (by omega)]; simp_all; done) | (rw [validR_2 (r := r) (by omega)]; simp_all; done) | (rw [validR_5 (r := r) (by omega), decide_eq_true (p := r.syms.length = 0) (by omega), decide_eq_true (p := r.kids.length = 1) (by omega)]; first | rfl | (simp_all; done)) | (rw [validR_5 (r := r) (by omega), decide_eq_false (p := r.kids.length = 1) (by omega), Bool.false_and, Bool.and_false]; first | done | rfl | (simp_all; done)) | (rw [validR_5 (r := r) (by omega), decide_eq_false (p := r.syms.length = 0) (by omega), Bool.false_and]; first | done | rfl | (simp_all; done)) | (rw [validR_34 (r := r) (by omega)]; simp_all; done) | (rw [validR_no (r := r) (by omega)]; done)
       ·try simp only [dq] at h10
        refine code_skip ?_
        refine blockQ_normal ?_
        refine spk 61 [] [] rfl rfl rfl ?_
        refine code_seq ?_
        refine code_ops _ rfl ?_
        refine ol_pure rfl rfl rfl (pure_assign rfl rfl) ?_
        refine ol_nil ?_
        refine spk 61 [(2,_)] [] rfl rfl rfl ?_
        refine code_ret ?_
        refine end_ret rfl ?_
        first | (rw [validR_01 (r := r) (by omega)]; simp_all; done) | (rw [validR_2 (r := r) (by omega)]; simp_all; done) | (rw [validR_5 (r := r) (by omega), decide_eq_true (p := r.syms.length = 0) (by omega), decide_eq_true (p := r.kids.length = 1) (by omega)]; first | rfl | (simp_all; done)) | (rw [validR_5 (r := r) (by omega), decide_eq_false (p := r.kids.length = 1) (by omega), Bool.false_and, Bool.and_false]; first | done | rfl | (simp_all; done)) | (rw [validR_5 (r := r) (by omega), decide_eq_false (p := r.syms.length = 0) (by omega), Bool.false_and]; first | done | rfl | (simp_all; done)) | (rw [validR_34 (r := r) (by omega)]; simp_all; done) | (rw [validR_no (r := r) (by omega)]; done)
      ·try simp only [dq] at h9
       refine code_ops _ rfl ?_
       refine ol_pure rfl rfl rfl (pure_eql rfl rfl rfl) ?_
       refine ol_pure rfl rfl rfl (pure_assign rfl rfl) ?_
       refine ol_nil ?_
       refine spk 61 [(1,_),(48,_)] [] rfl rfl rfl ?_
       refine code_cond rfl (fun h12 => ?_) (fun h12 => ?_)
       ·try simp only [dq] at h12
        refine code_seq ?_
        refine code_ops _ rfl ?_
        refine ol_pure rfl rfl rfl (pure_field rfl fd25_1 rfl) ?_
        refine ol_pure rfl rfl rfl (pure_load rfl ag22 rfl rfl) ?_
        refine ol_pure rfl rfl rfl (pure_lenm rfl Tryz.underlying22 rfl) ?_
        refine ol_pure rfl rfl rfl (pure_eql rfl rfl rfl) ?_
        refine ol_pure rfl rfl rfl (pure_move rfl rfl) ?_
        refine ol_guard rfl (fun h13 => ?_) (fun h13 => ?_)
        ·have h13' := h13; try simp only [dq] at h13'
         refine ol_pure_g rfl rfl h13 rfl rfl (pure_field rfl fd25_2 rfl) ?_
         refine ol_pure_g rfl rfl h13 rfl rfl (pure_load rfl ag23 rfl rfl) ?_
         refine opk 61 [(55,_),(57,_)] [] rfl rfl rfl ?_
         refine ol_pure_g rfl rfl h13 rfl rfl (pure_call rfl rfl rfl (hasR_call (p := fun x => !validR x) (by omega) (fun x hx => validN_call (ih _ (Nat.le_of_lt_succ (Nat.lt_of_lt_of_le (size_kid hx) hr)) (by omega)))) hM0) ?_
         refine ol_pure_g rfl rfl h13 rfl rfl (pure_not rfl rfl) ?_
         refine ol_pure rfl rfl rfl (pure_pick_t rfl rfl h13 rfl) ?_
         refine ol_pure rfl rfl rfl (pure_assign rfl rfl) ?_
         refine ol_nil ?_
         refine spk 61 [(2,_)] [] rfl rfl rfl ?_
         refine code_ret ?_
         refine blockQ_ret ?_
         refine seqQ_ret ?_
         refine end_ret rfl ?_
         first | (rw [validR_01 (r := r) (by omega)]; simp_all; done) | (rw [validR_2 (r := r) (by omega)]; simp_all; done) | (rw [validR_5 (r := r) (by omega), decide_eq_true (p := r.syms.length = 0) (by omega), decide_eq_true (p := r.kids.length = 1) (by omega)]; first | rfl | (simp_all; done)) | (rw [validR_5 (r := r) (by omega), decide_eq_false (p := r.kids.length = 1) (by omega), Bool.false_and, Bool.and_false]; first | done | rfl | (simp_all; done)) | (rw [validR_5 (r := r) (by omega), decide_eq_false (p := r.syms.length = 0) (by omega), Bool.false_and]; first | done | rfl | (simp_all; done)) | (rw [validR_34 (r := r) (by omega)]; simp_all; done) | (rw [validR_no (r := r) (by omega)]; done)
        ·have h13' := h13; try simp only [dq] at h13'
         refine ol_skip_g rfl rfl h13 rfl rfl ?_
         refine ol_skip_g rfl rfl h13 rfl rfl ?_
         refine opk 61 [(55,_),(57,_)] [] rfl rfl rfl ?_
         refine ol_skip_g rfl rfl h13 rfl rfl ?_
         refine ol_skip_g rfl rfl h13 rfl rfl ?_
         refine ol_pure rfl rfl rfl (pure_pick_f rfl rfl h13 rfl) ?_
         refine ol_pure rfl rfl rfl (pure_assign rfl rfl) ?_
         refine ol_nil ?_
         refine spk 61 [(2,_)] [] rfl rfl rfl ?_
         refine code_ret ?_
         refine blockQ_ret ?_
         refine seqQ_ret ?_
         refine end_ret rfl ?_
         first | (rw [validR_01 (r := r) (by omega)]; simp_all; done) | (rw [validR_2 (r := r) (by omega)]; simp_all; done) | (rw [validR_5 (r := r) (by omega), decide_eq_true (p := r.syms.length = 0) (by omega), decide_eq_true (p := r.kids.length = 1) (by omega)]; first | rfl | (simp_all; done)) | (rw [validR_5 (r := r) (by omega), decide_eq_false (p := r.kids.length = 1) (by omega), Bool.false_and, Bool.and_false]; first | done | rfl | (simp_all; done)) | (rw [validR_5 (r := r) (by omega), decide_eq_false (p := r.syms.length = 0) (by omega), Bool.false_and]; first | done | rfl | (simp_all; done)) | (rw [validR_34 (r := r) (by omega)]; simp_all; done) | (rw [validR_no (r := r) (by omega)]; done)
       ·try simp only [dq] at h12
        refine code_skip ?_
        refine blockQ_normal ?_
        refine spk 61 [] [] rfl rfl rfl ?_
        refine code_seq ?_
        refine code_ops _ rfl ?_
        refine ol_pure rfl rfl rfl (pure_assign rfl rfl) ?_
        refine ol_nil ?_
        refine spk 61 [(2,_)] [] rfl rfl rfl ?_
        refine code_ret ?_
        refine end_ret rfl ?_
        first | (rw [validR_01 (r := r) (by omega)]; simp_all; done) | (rw [validR_2 (r := r) (by omega)]; simp_all; done) | (rw [validR_5 (r := r) (by omega), decide_eq_true (p := r.syms.length = 0) (by omega), decide_eq_true (p := r.kids.length = 1) (by omega)]; first | rfl | (simp_all; done)) | (rw [validR_5 (r := r) (by omega), decide_eq_false (p := r.kids.length = 1) (by omega), Bool.false_and, Bool.and_false]; first | done | rfl | (simp_all; done)) | (rw [validR_5 (r := r) (by omega), decide_eq_false (p := r.syms.length = 0) (by omega), Bool.false_and]; first | done | rfl | (simp_all; done)) | (rw [validR_34 (r := r) (by omega)]; simp_all; done) | (rw [validR_no (r := r) (by omega)]; done)
  ·try simp only [dq] at h1
   refine code_ops _ rfl ?_
   refine ol_pure rfl rfl rfl (pure_eql rfl rfl rfl) ?_
   refine ol_pure rfl rfl rfl (pure_assign rfl rfl) ?_
   refine ol_nil ?_
   refine spk 61 [(1,_),(4,_),(5,_)] [] rfl rfl rfl ?_
   refine code_cond rfl (fun h14 => ?_) (fun h14 => ?_)
   ·try simp only [dq] at h14
    refine code_seq ?_
    refine code_ops _ rfl ?_
    refine ol_pure rfl rfl rfl (pure_field rfl fd25_1 rfl) ?_
    refine ol_pure rfl rfl rfl (pure_load rfl ag22 rfl rfl) ?_
    refine ol_pure rfl rfl rfl (pure_lenm rfl Tryz.underlying22 rfl) ?_
    refine ol_pure rfl rfl rfl (pure_eql rfl rfl rfl) ?_
    refine ol_pure rfl rfl rfl (pure_move rfl rfl) ?_
    refine ol_guard rfl (fun h15 => ?_) (fun h15 => ?_)
    ·have h15' := h15; try simp only [dq] at h15'
     refine ol_pure_g rfl rfl h15 rfl rfl (pure_field rfl fd25_2 rfl) ?_
     refine ol_pure_g rfl rfl h15 rfl rfl (pure_load rfl ag23 rfl rfl) ?_
     refine opk 61 [(12,_),(14,_)] [] rfl rfl rfl ?_
     refine ol_pure_g rfl rfl h15 rfl rfl (pure_lenm rfl Tryz.underlying23 rfl) ?_
     refine ol_pure_g rfl rfl h15 rfl rfl (pure_eql rfl rfl rfl) ?_
     refine ol_pure rfl rfl rfl (pure_pick_t rfl rfl h15 rfl) ?_
     refine ol_pure rfl rfl rfl (pure_assign rfl rfl) ?_
     refine ol_nil ?_
     refine spk 61 [(2,_)] [] rfl rfl rfl ?_
     refine code_ret ?_
     refine blockQ_ret ?_
     refine seqQ_ret ?_
     refine end_ret rfl ?_
     first | (rw [validR_01 (r := r) (by omega)]; simp_all; done) | (rw [validR_2 (r := r) (by omega)]; simp_all; done) | (rw [validR_5 (r := r) (by omega), decide_eq_true (p := r.syms.length = 0) (by omega), decide_eq_true (p := r.kids.length = 1) (by omega)]; first | rfl | (simp_all; done)) | (rw [validR_5 (r := r) (by omega), decide_eq_false (p := r.kids.length = 1) (by omega), Bool.false_and, Bool.and_false]; first | done | rfl | (simp_all; done)) | (rw [validR_5 (r := r) (by omega), decide_eq_false (p := r.syms.length = 0) (by omega), Bool.false_and]; first | done | rfl | (simp_all; done)) | (rw [validR_34 (r := r) (by omega)]; simp_all; done) | (rw [validR_no (r := r) (by omega)]; done)
    ·have h15' := h15; try simp only [dq] at h15'
     refine ol_skip_g rfl rfl h15 rfl rfl ?_
     refine ol_skip_g rfl rfl h15 rfl rfl ?_
     refine opk 61 [(12,_),(14,_)] [] rfl rfl rfl ?_
     refine ol_skip_g rfl rfl h15 rfl rfl ?_
     refine ol_skip_g rfl rfl h15 rfl rfl ?_
     refine ol_pure rfl rfl rfl (pure_pick_f rfl rfl h15 rfl) ?_
     refine ol_pure rfl rfl rfl (pure_assign rfl rfl) ?_
     refine ol_nil ?_
     refine spk 61 [(2,_)] [] rfl rfl rfl ?_
     refine code_ret ?_
     refine blockQ_ret ?_
     refine seqQ_ret ?_
     refine end_ret rfl ?_
     first | (rw [validR_01 (r := r) (by omega)]; simp_all; done) | (rw [validR_2 (r := r) (by omega)]; simp_all; done) | (rw [validR_5 (r := r) (by omega), decide_eq_true (p := r.syms.length = 0) (by omega), decide_eq_true (p := r.kids.length = 1) (by omega)]; first | rfl | (simp_all; done)) | (rw [validR_5 (r := r) (by omega), decide_eq_false (p := r.kids.length = 1) (by omega), Bool.false_and, Bool.and_false]; first | done | rfl | (simp_all; done)) | (rw [validR_5 (r := r) (by omega), decide_eq_false (p := r.syms.length = 0) (by omega), Bool.false_and]; first | done | rfl | (simp_all; done)) | (rw [validR_34 (r := r) (by omega)]; simp_all; done) | (rw [validR_no (r := r) (by omega)]; done)
   ·try simp only [dq] at h14
    refine code_seq ?_
    refine code_ops _ rfl ?_
    refine ol_pure rfl rfl rfl (pure_eql rfl rfl rfl) ?_
    refine ol_pure rfl rfl rfl (pure_assign rfl rfl) ?_
    refine ol_nil ?_
    refine spk 61 [(1,_),(4,_),(18,_)] [] rfl rfl rfl ?_
    refine code_cond rfl (fun h16 => ?_) (fun h16 => ?_)
    ·try simp only [dq] at h16
     refine code_seq ?_
     refine code_ops _ rfl ?_
     refine ol_pure rfl rfl rfl (pure_field rfl fd25_2 rfl) ?_
     refine ol_pure rfl rfl rfl (pure_load rfl ag23 rfl rfl) ?_
     refine ol_pure rfl rfl rfl (pure_lenm rfl Tryz.underlying23 rfl) ?_
     refine ol_pure rfl rfl rfl (pure_eql rfl rfl rfl) ?_
     refine ol_pure rfl rfl rfl (pure_move rfl rfl) ?_
     refine ol_guard rfl (fun h17 => ?_) (fun h17 => ?_)
     ·have h17' := h17; try simp only [dq] at h17'
      refine ol_pure_g rfl rfl h17 rfl rfl (pure_field rfl fd25_1 rfl) ?_
      refine ol_pure_g rfl rfl h17 rfl rfl (pure_load rfl ag22 rfl rfl) ?_
      refine ol_pure_g rfl rfl h17 rfl rfl (pure_call rfl rfl rfl (set_call (by omega)) hM0) ?_
      refine ol_pure rfl rfl rfl (pure_pick_t rfl rfl h17 rfl) ?_
      refine ol_pure rfl rfl rfl (pure_assign rfl rfl) ?_
      refine ol_nil ?_
      refine spk 61 [(2,_)] [] rfl rfl rfl ?_
      refine code_ret ?_
      refine blockQ_ret ?_
      refine seqQ_ret ?_
      refine end_ret rfl ?_
      first | (rw [validR_01 (r := r) (by omega)]; simp_all; done) | (rw [validR_2 (r := r) (by omega)]; simp_all; done) | (rw [validR_5 (r := r) (by omega), decide_eq_true (p := r.syms.length = 0) (by omega), decide_eq_true (p := r.kids.length = 1) (by omega)]; first | rfl | (simp_all; done)) | (rw [validR_5 (r := r) (by omega), decide_eq_false (p := r.kids.length = 1) (by omega), Bool.false_and, Bool.and_false]; first | done | rfl | (simp_all; done)) | (rw [validR_5 (r := r) (by omega), decide_eq_false (p := r.syms.length = 0) (by omega), Bool.false_and]; first | done | rfl | (simp_all; done)) | (rw [validR_34 (r := r) (by omega)]; simp_all; done) | (rw [validR_no (r := r) (by omega)]; done)
     ·have h17' := h17; try simp only [dq] at h17'
      refine ol_skip_g rfl rfl h17 rfl rfl ?_
      refine ol_skip_g rfl rfl h17 rfl rfl ?_
      refine ol_skip_g rfl rfl h17 rfl rfl ?_
      refine ol_pure rfl rfl rfl (pure_pick_f rfl rfl h17 rfl) ?_
      refine ol_pure rfl rfl rfl (pure_assign rfl rfl) ?_
      refine ol_nil ?_
      refine spk 61 [(2,_)] [] rfl rfl rfl ?_
      refine code_ret ?_
      refine blockQ_ret ?_
      refine seqQ_ret ?_
      refine end_ret rfl ?_
      first | (rw [validR_01 (r := r) (by omega)]; simp_all; done) | (rw [validR_2 (r := r) (by omega)]; simp_all; done) | (rw [validR_5 (r := r) (by omega), decide_eq_true (p := r.syms.length = 0) (by omega), decide_eq_true (p := r.kids.length = 1) (by omega)]; first | rfl | (simp_all; done)) | (rw [validR_5 (r := r) (by omega), decide_eq_false (p := r.kids.length = 1) (by omega), Bool.false_and, Bool.and_false]; first | done | rfl | (simp_all; done)) | (rw [validR_5 (r := r) (by omega), decide_eq_false (p := r.syms.length = 0) (by omega), Bool.false_and]; first | done | rfl | (simp_all; done)) | (rw [validR_34 (r := r) (by omega)]; simp_all; done) | (rw [validR_no (r := r) (by omega)]; done)
    ·try simp only [dq] at h16
     refine code_seq ?_
     refine code_ops _ rfl ?_
     refine ol_pure rfl rfl rfl (pure_eql rfl rfl rfl) ?_
     refine ol_pure rfl rfl rfl (pure_assign rfl rfl) ?_
     refine ol_nil ?_
     refine spk 61 [(1,_),(4,_),(29,_)] [] rfl rfl rfl ?_
     refine code_cond rfl (fun h18 => ?_) (fun h18 => ?_)
     ·try simp only [dq] at h18
      refine code_seq ?_
      refine code_ops _ rfl ?_
      refine ol_pure rfl rfl rfl (pure_field rfl fd25_1 rfl) ?_
      refine ol_pure rfl rfl rfl (pure_load rfl ag22 rfl rfl) ?_
      refine ol_pure rfl rfl rfl (pure_lenm rfl Tryz.underlying22 rfl) ?_
      refine ol_pure rfl rfl rfl (pure_eql rfl rfl rfl) ?_
      refine ol_pure rfl rfl rfl (pure_move rfl rfl) ?_
      refine ol_guard rfl (fun h19 => ?_) (fun h19 => ?_)
      ·have h19' := h19; try simp only [dq] at h19'
       refine ol_pure_g rfl rfl h19 rfl rfl (pure_field rfl fd25_2 rfl) ?_
       refine ol_pure_g rfl rfl h19 rfl rfl (pure_load rfl ag23 rfl rfl) ?_
       refine opk 61 [(1,_),(35,_),(37,_)] [] rfl rfl rfl ?_
       refine ol_pure_g rfl rfl h19 rfl rfl (pure_lenm rfl Tryz.underlying23 rfl) ?_
       refine ol_pure_g rfl rfl h19 rfl rfl (pure_eql rfl rfl rfl) ?_
       refine ol_pure rfl rfl rfl (pure_pick_t rfl rfl h19 rfl) ?_
       refine ol_pure rfl rfl rfl (pure_move rfl rfl) ?_
       refine ol_guard rfl (fun h20 => ?_) (fun h20 => ?_)
       ·have h20' := h20; try simp only [dq] at h20'
        refine ol_pure_g rfl rfl h20 rfl rfl (pure_field rfl fd25_2 rfl) ?_
        refine ol_pure_g rfl rfl h20 rfl rfl (pure_load rfl ag23 rfl rfl) ?_
        first | refine ol_pure_g rfl rfl h20 rfl rfl (pure_indexn rfl Tryz.underlying23 sz25 rfl rfl (by omega) (fun _ => rfl)) ?_ | refine ol_pure_g rfl rfl h20 rfl rfl (pure_indexm rfl Tryz.underlying23 sz25 rfl rfl (by omega) (fun _ => rfl)) ?_
        refine opk 61 [(41,_),(44,_)] [] rfl rfl rfl ?_
        refine ol_pure_g rfl rfl h20 rfl rfl (pure_load_agg rfl ag25 sz25 rfl (Nat.le_of_ble_eq_true rfl)) ?_
        refine ol_pure_g rfl rfl h20 rfl rfl (pure_call rfl rfl rfl (ih _ (Nat.le_of_lt_succ (Nat.lt_of_lt_of_le (kid_lt (by omega)) hr)) (by omega)) hM0) ?_
        refine ol_pure rfl rfl rfl (pure_pick_t rfl rfl h20 rfl) ?_
        refine ol_pure rfl rfl rfl (pure_assign rfl rfl) ?_
        refine ol_nil ?_
        refine spk 61 [(2,_)] [] rfl rfl rfl ?_
        refine code_ret ?_
        refine blockQ_ret ?_
        refine seqQ_ret ?_
        refine end_ret rfl ?_
        first | (rw [validR_01 (r := r) (by omega)]; simp_all; done) | (rw [validR_2 (r := r) (by omega)]; simp_all; done) | (rw [validR_5 (r := r) (by omega), decide_eq_true (p := r.syms.length = 0) (by omega), decide_eq_true (p := r.kids.length = 1) (by omega)]; first | rfl | (simp_all; done)) | (rw [validR_5 (r := r) (by omega), decide_eq_false (p := r.kids.length = 1) (by omega), Bool.false_and, Bool.and_false]; first | done | rfl | (simp_all; done)) | (rw [validR_5 (r := r) (by omega), decide_eq_false (p := r.syms.length = 0) (by omega), Bool.false_and]; first | done | rfl | (simp_all; done)) | (rw [validR_34 (r := r) (by omega)]; simp_all; done) | (rw [validR_no (r := r) (by omega)]; done)
       ·have h20' := h20; try simp only [dq] at h20'
        refine ol_skip_g rfl rfl h20 rfl rfl ?_
        refine ol_skip_g rfl rfl h20 rfl rfl ?_
        refine ol_skip_g rfl rfl h20 rfl rfl ?_
        refine opk 61 [(41,_),(44,_)] [] rfl rfl rfl ?_
        refine ol_skip_g rfl rfl h20 rfl rfl ?_
        refine ol_skip_g rfl rfl h20 rfl rfl ?_
        refine ol_pure rfl rfl rfl (pure_pick_f rfl rfl h20 rfl) ?_
        refine ol_pure rfl rfl rfl (pure_assign rfl rfl) ?_
        refine ol_nil ?_
        refine spk 61 [(2,_)] [] rfl rfl rfl ?_
        refine code_ret ?_
        refine blockQ_ret ?_
        refine seqQ_ret ?_
        refine end_ret rfl ?_
        first | (rw [validR_01 (r := r) (by omega)]; simp_all; done) | (rw [validR_2 (r := r) (by omega)]; simp_all; done) | (rw [validR_5 (r := r) (by omega), decide_eq_true (p := r.syms.length = 0) (by omega), decide_eq_true (p := r.kids.length = 1) (by omega)]; first | rfl | (simp_all; done)) | (rw [validR_5 (r := r) (by omega), decide_eq_false (p := r.kids.length = 1) (by omega), Bool.false_and, Bool.and_false]; first | done | rfl | (simp_all; done)) | (rw [validR_5 (r := r) (by omega), decide_eq_false (p := r.syms.length = 0) (by omega), Bool.false_and]; first | done | rfl | (simp_all; done)) | (rw [validR_34 (r := r) (by omega)]; simp_all; done) | (rw [validR_no (r := r) (by omega)]; done)
      ·have h19' := h19; try simp only [dq] at h19'
       refine ol_skip_g rfl rfl h19 rfl rfl ?_
       refine ol_skip_g rfl rfl h19 rfl rfl ?_
       refine opk 61 [(1,_),(35,_),(37,_)] [] rfl rfl rfl ?_
       refine ol_skip_g rfl rfl h19 rfl rfl ?_
       refine ol_skip_g rfl rfl h19 rfl rfl ?_
       refine ol_pure rfl rfl rfl (pure_pick_f rfl rfl h19 rfl) ?_
       refine ol_pure rfl rfl rfl (pure_move rfl rfl) ?_
       refine ol_skip_g rfl rfl rfl rfl rfl ?_
       refine ol_skip_g rfl rfl rfl rfl rfl ?_
       refine ol_skip_g rfl rfl rfl rfl rfl ?_
       refine opk 61 [(41,_),(44,_)] [] rfl rfl rfl ?_
       refine ol_skip_g rfl rfl rfl rfl rfl ?_
       refine ol_skip_g rfl rfl rfl rfl rfl ?_
       refine ol_pure rfl rfl rfl (pure_pick_f rfl rfl rfl rfl) ?_
       refine ol_pure rfl rfl rfl (pure_assign rfl rfl) ?_
       refine ol_nil ?_
       refine spk 61 [(2,_)] [] rfl rfl rfl ?_
       refine code_ret ?_
       refine blockQ_ret ?_
       refine seqQ_ret ?_
       refine end_ret rfl ?_
       first | (rw [validR_01 (r := r) (by omega)]; simp_all; done) | (rw [validR_2 (r := r) (by omega)]; simp_all; done) | (rw [validR_5 (r := r) (by omega), decide_eq_true (p := r.syms.length = 0) (by omega), decide_eq_true (p := r.kids.length = 1) (by omega)]; first | rfl | (simp_all; done)) | (rw [validR_5 (r := r) (by omega), decide_eq_false (p := r.kids.length = 1) (by omega), Bool.false_and, Bool.and_false]; first | done | rfl | (simp_all; done)) | (rw [validR_5 (r := r) (by omega), decide_eq_false (p := r.syms.length = 0) (by omega), Bool.false_and]; first | done | rfl | (simp_all; done)) | (rw [validR_34 (r := r) (by omega)]; simp_all; done) | (rw [validR_no (r := r) (by omega)]; done)
     ·try simp only [dq] at h18
      refine code_seq ?_
      refine code_seq ?_
      refine code_ops _ rfl ?_
      refine ol_pure rfl rfl rfl (pure_eql rfl rfl rfl) ?_
      refine ol_pure rfl rfl rfl (pure_assign rfl rfl) ?_
      refine ol_nil ?_
      refine spk 61 [(1,_),(4,_),(48,_)] [] rfl rfl rfl ?_
      refine code_cond rfl (fun h21 => ?_) (fun h21 => ?_)
      ·try simp only [dq] at h21
       refine code_skip ?_
       refine spk 61 [(1,_),(48,_)] [] rfl rfl rfl ?_
       refine code_cond rfl (fun h22 => ?_) (fun h22 => ?_)
       ·try simp only [dq] at h22
        refine code_seq ?_
        refine code_ops _ rfl ?_
        refine ol_pure rfl rfl rfl (pure_field rfl fd25_1 rfl) ?_
        refine ol_pure rfl rfl rfl (pure_load rfl ag22 rfl rfl) ?_
        refine ol_pure rfl rfl rfl (pure_lenm rfl Tryz.underlying22 rfl) ?_
        refine ol_pure rfl rfl rfl (pure_eql rfl rfl rfl) ?_
        refine ol_pure rfl rfl rfl (pure_move rfl rfl) ?_
        refine ol_guard rfl (fun h23 => ?_) (fun h23 => ?_)
        ·have h23' := h23; try simp only [dq] at h23'
         refine ol_pure_g rfl rfl h23 rfl rfl (pure_field rfl fd25_2 rfl) ?_
         refine ol_pure_g rfl rfl h23 rfl rfl (pure_load rfl ag23 rfl rfl) ?_
         refine opk 61 [(55,_),(57,_)] [] rfl rfl rfl ?_
         refine ol_pure_g rfl rfl h23 rfl rfl (pure_call rfl rfl rfl (hasR_call (p := fun x => !validR x) (by omega) (fun x hx => validN_call (ih _ (Nat.le_of_lt_succ (Nat.lt_of_lt_of_le (size_kid hx) hr)) (by omega)))) hM0) ?_
         refine ol_pure_g rfl rfl h23 rfl rfl (pure_not rfl rfl) ?_
         refine ol_pure rfl rfl rfl (pure_pick_t rfl rfl h23 rfl) ?_
         refine ol_pure rfl rfl rfl (pure_assign rfl rfl) ?_
         refine ol_nil ?_
         refine spk 61 [(2,_)] [] rfl rfl rfl ?_
         refine code_ret ?_
         refine blockQ_ret ?_
         refine seqQ_ret ?_
         refine end_ret rfl ?_
         first | (rw [validR_01 (r := r) (by omega)]; simp_all; done) | (rw [validR_2 (r := r) (by omega)]; simp_all; done) | (rw [validR_5 (r := r) (by omega), decide_eq_true (p := r.syms.length = 0) (by omega), decide_eq_true (p := r.kids.length = 1) (by omega)]; first | rfl | (simp_all; done)) | (rw [validR_5 (r := r) (by omega), decide_eq_false (p := r.kids.length = 1) (by omega), Bool.false_and, Bool.and_false]; first | done | rfl | (simp_all; done)) | (rw [validR_5 (r := r) (by omega), decide_eq_false (p := r.syms.length = 0) (by omega), Bool.false_and]; first | done | rfl | (simp_all; done)) | (rw [validR_34 (r := r) (by omega)]; simp_all; done) | (rw [validR_no (r := r) (by omega)]; done)
        ·have h23' := h23; try simp only [dq] at h23'
         refine ol_skip_g rfl rfl h23 rfl rfl ?_
         refine ol_skip_g rfl rfl h23 rfl rfl ?_
         refine opk 61 [(55,_),(57,_)] [] rfl rfl rfl ?_
         refine ol_skip_g rfl rfl h23 rfl rfl ?_
         refine ol_skip_g rfl rfl h23 rfl rfl ?_
         refine ol_pure rfl rfl rfl (pure_pick_f rfl rfl h23 rfl) ?_
         refine ol_pure rfl rfl rfl (pure_assign rfl rfl) ?_
         refine ol_nil ?_
         refine spk 61 [(2,_)] [] rfl rfl rfl ?_
         refine code_ret ?_
         refine blockQ_ret ?_
         refine seqQ_ret ?_
         refine end_ret rfl ?_
         first | (rw [validR_01 (r := r) (by omega)]; simp_all; done) | (rw [validR_2 (r := r) (by omega)]; simp_all; done) | (rw [validR_5 (r := r) (by omega), decide_eq_true (p := r.syms.length = 0) (by omega), decide_eq_true (p := r.kids.length = 1) (by omega)]; first | rfl | (simp_all; done)) | (rw [validR_5 (r := r) (by omega), decide_eq_false (p := r.kids.length = 1) (by omega), Bool.false_and, Bool.and_false]; first | done | rfl | (simp_all; done)) | (rw [validR_5 (r := r) (by omega), decide_eq_false (p := r.syms.length = 0) (by omega), Bool.false_and]; first | done | rfl | (simp_all; done)) | (rw [validR_34 (r := r) (by omega)]; simp_all; done) | (rw [validR_no (r := r) (by omega)]; done)
       ·try simp only [dq] at h22
        refine code_skip ?_
        refine blockQ_normal ?_
        refine spk 61 [] [] rfl rfl rfl ?_
        refine code_seq ?_
        refine code_ops _ rfl ?_
        refine ol_pure rfl rfl rfl (pure_assign rfl rfl) ?_
        refine ol_nil ?_
        refine spk 61 [(2,_)] [] rfl rfl rfl ?_
        refine code_ret ?_
        refine end_ret rfl ?_
        first | (rw [validR_01 (r := r) (by omega)]; simp_all; done) | (rw [validR_2 (r := r) (by omega)]; simp_all; done) | (rw [validR_5 (r := r) (by omega), decide_eq_true (p := r.syms.length = 0) (by omega), decide_eq_true (p := r.kids.length = 1) (by omega)]; first | rfl | (simp_all; done)) | (rw [validR_5 (r := r) (by omega), decide_eq_false (p := r.kids.length = 1) (by omega), Bool.false_and, Bool.and_false]; first | done | rfl | (simp_all; done)) | (rw [validR_5 (r := r) (by omega), decide_eq_false (p := r.syms.length = 0) (by omega), Bool.false_and]; first | done | rfl | (simp_all; done)) | (rw [validR_34 (r := r) (by omega)]; simp_all; done) | (rw [validR_no (r := r) (by omega)]; done)
      ·try simp only [dq] at h21
       refine code_ops _ rfl ?_
       refine ol_pure rfl rfl rfl (pure_eql rfl rfl rfl) ?_
       refine ol_pure rfl rfl rfl (pure_assign rfl rfl) ?_
       refine ol_nil ?_
       refine spk 61 [(1,_),(48,_)] [] rfl rfl rfl ?_
       refine code_cond rfl (fun h24 => ?_) (fun h24 => ?_)
       ·try simp only [dq] at h24
        refine code_seq ?_
        refine code_ops _ rfl ?_
        refine ol_pure rfl rfl rfl (pure_field rfl fd25_1 rfl) ?_
        refine ol_pure rfl rfl rfl (pure_load rfl ag22 rfl rfl) ?_
        refine ol_pure rfl rfl rfl (pure_lenm rfl Tryz.underlying22 rfl) ?_
        refine ol_pure rfl rfl rfl (pure_eql rfl rfl rfl) ?_
        refine ol_pure rfl rfl rfl (pure_move rfl rfl) ?_
        refine ol_guard rfl (fun h25 => ?_) (fun h25 => ?_)
        ·have h25' := h25; try simp only [dq] at h25'
         refine ol_pure_g rfl rfl h25 rfl rfl (pure_field rfl fd25_2 rfl) ?_
         refine ol_pure_g rfl rfl h25 rfl rfl (pure_load rfl ag23 rfl rfl) ?_
         refine opk 61 [(55,_),(57,_)] [] rfl rfl rfl ?_
         refine ol_pure_g rfl rfl h25 rfl rfl (pure_call rfl rfl rfl (hasR_call (p := fun x => !validR x) (by omega) (fun x hx => validN_call (ih _ (Nat.le_of_lt_succ (Nat.lt_of_lt_of_le (size_kid hx) hr)) (by omega)))) hM0) ?_
         refine ol_pure_g rfl rfl h25 rfl rfl (pure_not rfl rfl) ?_
         refine ol_pure rfl rfl rfl (pure_pick_t rfl rfl h25 rfl) ?_
         refine ol_pure rfl rfl rfl (pure_assign rfl rfl) ?_
         refine ol_nil ?_
         refine spk 61 [(2,_)] [] rfl rfl rfl ?_
         refine code_ret ?_
         refine blockQ_ret ?_
         refine seqQ_ret ?_
         refine end_ret rfl ?_
         first | (rw [validR_01 (r := r) (by omega)]; simp_all; done) | (rw [validR_2 (r := r) (by omega)]; simp_all; done) | (rw [validR_5 (r := r) (by omega), decide_eq_true (p := r.syms.length = 0) (by omega), decide_eq_true (p := r.kids.length = 1) (by omega)]; first | rfl | (simp_all; done)) | (rw [validR_5 (r := r) (by omega), decide_eq_false (p := r.kids.length = 1) (by omega), Bool.false_and, Bool.and_false]; first | done | rfl | (simp_all; done)) | (rw [validR_5 (r := r) (by omega), decide_eq_false (p := r.syms.length = 0) (by omega), Bool.false_and]; first | done | rfl | (simp_all; done)) | (rw [validR_34 (r := r) (by omega)]; simp_all; done) | (rw [validR_no (r := r) (by omega)]; done)
        ·have h25' := h25; try simp only [dq] at h25'
         refine ol_skip_g rfl rfl h25 rfl rfl ?_
         refine ol_skip_g rfl rfl h25 rfl rfl ?_
         refine opk 61 [(55,_),(57,_)] [] rfl rfl rfl ?_
         refine ol_skip_g rfl rfl h25 rfl rfl ?_
         refine ol_skip_g rfl rfl h25 rfl rfl ?_
         refine ol_pure rfl rfl rfl (pure_pick_f rfl rfl h25 rfl) ?_
         refine ol_pure rfl rfl rfl (pure_assign rfl rfl) ?_
         refine ol_nil ?_
         refine spk 61 [(2,_)] [] rfl rfl rfl ?_
         refine code_ret ?_
         refine blockQ_ret ?_
         refine seqQ_ret ?_
         refine end_ret rfl ?_
         first | (rw [validR_01 (r := r) (by omega)]; simp_all; done) | (rw [validR_2 (r := r) (by omega)]; simp_all; done) | (rw [validR_5 (r := r) (by omega), decide_eq_true (p := r.syms.length = 0) (by omega), decide_eq_true (p := r.kids.length = 1) (by omega)]; first | rfl | (simp_all; done)) | (rw [validR_5 (r := r) (by omega), decide_eq_false (p := r.kids.length = 1) (by omega), Bool.false_and, Bool.and_false]; first | done | rfl | (simp_all; done)) | (rw [validR_5 (r := r) (by omega), decide_eq_false (p := r.syms.length = 0) (by omega), Bool.false_and]; first | done | rfl | (simp_all; done)) | (rw [validR_34 (r := r) (by omega)]; simp_all; done) | (rw [validR_no (r := r) (by omega)]; done)
       ·try simp only [dq] at h24
        refine code_skip ?_
        refine blockQ_normal ?_
        refine spk 61 [] [] rfl rfl rfl ?_
        refine code_seq ?_
        refine code_ops _ rfl ?_
        refine ol_pure rfl rfl rfl (pure_assign rfl rfl) ?_
        refine ol_nil ?_
        refine spk 61 [(2,_)] [] rfl rfl rfl ?_
        refine code_ret ?_
        refine end_ret rfl ?_
        first | (rw [validR_01 (r := r) (by omega)]; simp_all; done) | (rw [validR_2 (r := r) (by omega)]; simp_all; done) | (rw [validR_5 (r := r) (by omega), decide_eq_true (p := r.syms.length = 0) (by omega), decide_eq_true (p := r.kids.length = 1) (by omega)]; first | rfl | (simp_all; done)) | (rw [validR_5 (r := r) (by omega), decide_eq_false (p := r.kids.length = 1) (by omega), Bool.false_and, Bool.and_false]; first | done | rfl | (simp_all; done)) | (rw [validR_5 (r := r) (by omega), decide_eq_false (p := r.syms.length = 0) (by omega), Bool.false_and]; first | done | rfl | (simp_all; done)) | (rw [validR_34 (r := r) (by omega)]; simp_all; done) | (rw [validR_no (r := r) (by omega)]; done)

theorem fn74 : Fn1 Tryz.prog 74 Tryz.f74.ntmps 2 (Tryz.f74.body.getD .skip) := ⟨Tryz.f74, Tryz.func74, rfl, rfl, rfl, by kernel_rfl⟩
set_option maxRecDepth 100000 in
set_option maxHeartbeats 4000000 in
theorem emptyN_call {x : Rx} (h : CallF Tryz.prog 48 [rx x] (.p (bool (accR x)))) : CallF Tryz.prog 74 [rx x] (.p (bool (!accR x))) := by
  refine callF_of_code fn74 (Nat.le_of_ble_eq_true rfl) fun w0 M0 hM0 => ?_
  refine code_seq ?_
  refine code_ops _ rfl ?_
  refine ol_pure rfl rfl rfl (pure_box rfl rfl rfl hM0) ?_
  refine ol_pure rfl rfl rfl (pure_assign rfl rfl) ?_
  refine ol_nil ?_
  refine spk 6 [(1,_)] [] rfl rfl rfl ?_
  refine code_seq ?_
  refine code_ops _ rfl ?_
  refine ol_pure rfl rfl rfl (pure_load_agg rfl ag25 sz25 rfl (Nat.le_of_ble_eq_true rfl)) ?_
  refine ol_pure rfl rfl rfl (pure_call rfl rfl rfl (h) hM0) ?_
  refine ol_pure rfl rfl rfl (pure_not rfl rfl) ?_
  refine ol_pure rfl rfl rfl (pure_assign rfl rfl) ?_
  refine ol_nil ?_
  refine spk 6 [(2,_)] [] rfl rfl rfl ?_
  refine code_ret ?_
  refine end_ret rfl ?_
  rfl

theorem fn48 : Fn1 Tryz.prog 48 Tryz.f48.ntmps 2 (Tryz.f48.body.getD .skip) := ⟨Tryz.f48, Tryz.func48, rfl, rfl, rfl, by kernel_rfl⟩
set_option maxRecDepth 100000 in
set_option maxHeartbeats 4000000 in
theorem empty_call : ∀ (m : Nat) (r : Rx), r.size ≤ m → m ≤ 1099511627776 → CallF Tryz.prog 48 [rx r] (.p (bool (accR r))) := by
  intro m
  induction m with
  | zero => intro a hr _; have := size_pos a; omega
  | succ m ih =>
  intro r hr hm
  have hkl := kids_len r
  have hsl := syms_len r
  rw [rx_eq r]
  refine callF_of_code fn48 (Nat.le_of_ble_eq_true rfl) fun w0 M0 hM0 => ?_
  refine code_seq ?_
  refine code_ops _ rfl ?_
  refine ol_pure rfl rfl rfl (pure_box rfl rfl rfl hM0) ?_
  refine ol_pure rfl rfl rfl (pure_assign rfl rfl) ?_
  refine ol_nil ?_
  refine spk 19 [(1,_)] [] rfl rfl rfl ?_
  refine code_seq ?_
  refine code_seq ?_
  refine code_ops _ rfl ?_
  refine ol_pure rfl rfl rfl (pure_field rfl fd25_0 rfl) ?_
  refine ol_pure rfl rfl rfl (pure_load rfl ag3 rfl rfl) ?_
  refine ol_nil ?_
  refine spk 19 [(1,_),(4,_)] [] rfl rfl rfl ?_
  refine code_block ?_
  refine code_seq ?_
  refine code_seq ?_
  refine code_ops _ rfl ?_
  refine ol_pure rfl rfl rfl (pure_eql rfl rfl rfl) ?_
  refine ol_pure rfl rfl rfl (pure_assign rfl rfl) ?_
  refine ol_nil ?_
  refine spk 19 [(1,_),(4,_),(5,_)] [] rfl rfl rfl ?_
  refine code_cond rfl (fun h1 => ?_) (fun h1 => ?_)
  ·try simp only [dq] at h1
   refine code_skip ?_
   refine spk 19 [(1,_),(4,_),(5,_)] [] rfl rfl rfl ?_
   refine code_cond rfl (fun h2 => ?_) (fun h2 => ?_)
   ·try simp only [dq] at h2
    refine code_seq ?_
    refine code_ops _ rfl ?_
    refine ol_pure rfl rfl rfl (pure_assign rfl rfl) ?_
    refine ol_nil ?_
    refine spk 19 [(2,_)] [] rfl rfl rfl ?_
    refine code_ret ?_
    refine blockQ_ret ?_
    refine seqQ_ret ?_
    refine end_ret rfl ?_
    rw [accR_eq]; first | (rw [if_pos (by omega), all_not_any]; done) | (rw [if_neg (by omega), if_pos (by omega)]; done) | (rw [if_neg (by omega), if_neg (by omega)]; simp_all; done) | (rw [if_neg (by omega), if_neg (by omega), decide_eq_false (by omega)]; done)
   ·try simp only [dq] at h2
    refine code_seq ?_
    refine code_ops _ rfl ?_
    refine ol_pure rfl rfl rfl (pure_eql rfl rfl rfl) ?_
    refine ol_pure rfl rfl rfl (pure_assign rfl rfl) ?_
    refine ol_nil ?_
    refine spk 19 [(1,_),(4,_),(8,_)] [] rfl rfl rfl ?_
    refine code_cond rfl (fun h3 => ?_) (fun h3 => ?_)
    ·try simp only [dq] at h3
     refine code_seq ?_
     refine code_ops _ rfl ?_
     refine ol_pure rfl rfl rfl (pure_field rfl fd25_2 rfl) ?_
     refine ol_pure rfl rfl rfl (pure_load rfl ag23 rfl rfl) ?_
     refine ol_pure rfl rfl rfl (pure_call rfl rfl rfl (hasR_call (p := fun x => !accR x) (by omega) (fun x hx => emptyN_call (ih _ (Nat.le_of_lt_succ (Nat.lt_of_lt_of_le (size_kid hx) hr)) (by omega)))) hM0) ?_
     refine ol_pure rfl rfl rfl (pure_not rfl rfl) ?_
     refine ol_pure rfl rfl rfl (pure_assign rfl rfl) ?_
     refine ol_nil ?_
     refine spk 19 [(2,_)] [] rfl rfl rfl ?_
     refine code_ret ?_
     refine blockQ_ret ?_
     refine seqQ_ret ?_
     refine end_ret rfl ?_
     rw [accR_eq]; first | (rw [if_pos (by omega), all_not_any]; done) | (rw [if_neg (by omega), if_pos (by omega)]; done) | (rw [if_neg (by omega), if_neg (by omega)]; simp_all; done) | (rw [if_neg (by omega), if_neg (by omega), decide_eq_false (by omega)]; done)
    ·try simp only [dq] at h3
     refine code_seq ?_
     refine code_ops _ rfl ?_
     refine ol_pure rfl rfl rfl (pure_eql rfl rfl rfl) ?_
     refine ol_pure rfl rfl rfl (pure_assign rfl rfl) ?_
     refine ol_nil ?_
     refine spk 19 [(1,_),(14,_)] [] rfl rfl rfl ?_
     refine code_cond rfl (fun h4 => ?_) (fun h4 => ?_)
     ·try simp only [dq] at h4
      refine code_seq ?_
      refine code_ops _ rfl ?_
      refine ol_pure rfl rfl rfl (pure_field rfl fd25_2 rfl) ?_
      refine ol_pure rfl rfl rfl (pure_load rfl ag23 rfl rfl) ?_
      refine ol_pure rfl rfl rfl (pure_call rfl rfl rfl (hasR_call (p := accR) (by omega) (fun x hx => (ih _ (Nat.le_of_lt_succ (Nat.lt_of_lt_of_le (size_kid hx) hr)) (by omega)))) hM0) ?_
      refine ol_pure rfl rfl rfl (pure_assign rfl rfl) ?_
      refine ol_nil ?_
      refine spk 19 [(2,_)] [] rfl rfl rfl ?_
      refine code_ret ?_
      refine blockQ_ret ?_
      refine seqQ_ret ?_
      refine end_ret rfl ?_
      rw [accR_eq]; first | (rw [if_pos (by omega), all_not_any]; done) | (rw [if_neg (by omega), if_pos (by omega)]; done) | (rw [if_neg (by omega), if_neg (by omega)]; simp_all; done) | (rw [if_neg (by omega), if_neg (by omega), decide_eq_false (by omega)]; done)
     ·try simp only [dq] at h4
      refine code_skip ?_
      refine blockQ_normal ?_
      refine spk 19 [] [] rfl rfl rfl ?_
      refine code_seq ?_
      refine code_ops _ rfl ?_
      refine ol_pure rfl rfl rfl (pure_assign rfl rfl) ?_
      refine ol_nil ?_
      refine spk 19 [(2,_)] [] rfl rfl rfl ?_
      refine code_ret ?_
      refine end_ret rfl ?_
      rw [accR_eq]; first | (rw [if_pos (by omega), all_not_any]; done) | (rw [if_neg (by omega), if_pos (by omega)]; done) | (rw [if_neg (by omega), if_neg (by omega)]; simp_all; done) | (rw [if_neg (by omega), if_neg (by omega), decide_eq_false (by omega)]; done)
  ·try simp only [dq] at h1
   refine code_ops _ rfl ?_
   refine ol_pure rfl rfl rfl (pure_eql rfl rfl rfl) ?_
   refine ol_pure rfl rfl rfl (pure_assign rfl rfl) ?_
   refine ol_nil ?_
   refine spk 19 [(1,_),(4,_),(5,_)] [] rfl rfl rfl ?_
   refine code_cond rfl (fun h5 => ?_) (fun h5 => ?_)
   ·try simp only [dq] at h5
    refine code_seq ?_
    refine code_ops _ rfl ?_
    refine ol_pure rfl rfl rfl (pure_assign rfl rfl) ?_
    refine ol_nil ?_
    refine spk 19 [(2,_)] [] rfl rfl rfl ?_
    refine code_ret ?_
    refine blockQ_ret ?_
    refine seqQ_ret ?_
    refine end_ret rfl ?_
    rw [accR_eq]; first | (rw [if_pos (by omega), all_not_any]; done) | (rw [if_neg (by omega), if_pos (by omega)]; done) | (rw [if_neg (by omega), if_neg (by omega)]; simp_all; done) | (rw [if_neg (by omega), if_neg (by omega), decide_eq_false (by omega)]; done)
   ·try simp only [dq] at h5
    refine code_seq ?_
    refine code_ops _ rfl ?_
    refine ol_pure rfl rfl rfl (pure_eql rfl rfl rfl) ?_
    refine ol_pure rfl rfl rfl (pure_assign rfl rfl) ?_
    refine ol_nil ?_
    refine spk 19 [(1,_),(4,_),(8,_)] [] rfl rfl rfl ?_
    refine code_cond rfl (fun h6 => ?_) (fun h6 => ?_)
    ·try simp only [dq] at h6
     refine code_seq ?_
     refine code_ops _ rfl ?_
     refine ol_pure rfl rfl rfl (pure_field rfl fd25_2 rfl) ?_
     refine ol_pure rfl rfl rfl (pure_load rfl ag23 rfl rfl) ?_
     refine ol_pure rfl rfl rfl (pure_call rfl rfl rfl (hasR_call (p := fun x => !accR x) (by omega) (fun x hx => emptyN_call (ih _ (Nat.le_of_lt_succ (Nat.lt_of_lt_of_le (size_kid hx) hr)) (by omega)))) hM0) ?_
     refine ol_pure rfl rfl rfl (pure_not rfl rfl) ?_
     refine ol_pure rfl rfl rfl (pure_assign rfl rfl) ?_
     refine ol_nil ?_
     refine spk 19 [(2,_)] [] rfl rfl rfl ?_
     refine code_ret ?_
     refine blockQ_ret ?_
     refine seqQ_ret ?_
     refine end_ret rfl ?_
     rw [accR_eq]; first | (rw [if_pos (by omega), all_not_any]; done) | (rw [if_neg (by omega), if_pos (by omega)]; done) | (rw [if_neg (by omega), if_neg (by omega)]; simp_all; done) | (rw [if_neg (by omega), if_neg (by omega), decide_eq_false (by omega)]; done)
    ·try simp only [dq] at h6
     refine code_seq ?_
     refine code_ops _ rfl ?_
     refine ol_pure rfl rfl rfl (pure_eql rfl rfl rfl) ?_
     refine ol_pure rfl rfl rfl (pure_assign rfl rfl) ?_
     refine ol_nil ?_
     refine spk 19 [(1,_),(14,_)] [] rfl rfl rfl ?_
     refine code_cond rfl (fun h7 => ?_) (fun h7 => ?_)
     ·try simp only [dq] at h7
      refine code_seq ?_
      refine code_ops _ rfl ?_
      refine ol_pure rfl rfl rfl (pure_field rfl fd25_2 rfl) ?_
      refine ol_pure rfl rfl rfl (pure_load rfl ag23 rfl rfl) ?_
      refine ol_pure rfl rfl rfl (pure_call rfl rfl rfl (hasR_call (p := accR) (by omega) (fun x hx => (ih _ (Nat.le_of_lt_succ (Nat.lt_of_lt_of_le (size_kid hx) hr)) (by omega)))) hM0) ?_
      refine ol_pure rfl rfl rfl (pure_assign rfl rfl) ?_
      refine ol_nil ?_
      refine spk 19 [(2,_)] [] rfl rfl rfl ?_
      refine code_ret ?_
      refine blockQ_ret ?_
      refine seqQ_ret ?_
      refine end_ret rfl ?_
      rw [accR_eq]; first | (rw [if_pos (by omega), all_not_any]; done) | (rw [if_neg (by omega), if_pos (by omega)]; done) | (rw [if_neg (by omega), if_neg (by omega)]; simp_all; done) | (rw [if_neg (by omega), if_neg (by omega), decide_eq_false (by omega)]; done)
     ·try simp only [dq] at h7
      refine code_skip ?_
      refine blockQ_normal ?_
      refine spk 19 [] [] rfl rfl rfl ?_
      refine code_seq ?_
      refine code_ops _ rfl ?_
      refine ol_pure rfl rfl rfl (pure_assign rfl rfl) ?_
      refine ol_nil ?_
      refine spk 19 [(2,_)] [] rfl rfl rfl ?_
      refine code_ret ?_
      refine end_ret rfl ?_
      rw [accR_eq]; first | (rw [if_pos (by omega), all_not_any]; done) | (rw [if_neg (by omega), if_pos (by omega)]; done) | (rw [if_neg (by omega), if_neg (by omega)]; simp_all; done) | (rw [if_neg (by omega), if_neg (by omega), decide_eq_false (by omega)]; done)

theorem fn16 : Fn1 Tryz.prog 16 Tryz.f16.ntmps 2 (Tryz.f16.body.getD .skip) := ⟨Tryz.f16, Tryz.func16, rfl, rfl, rfl, by kernel_rfl⟩
set_option maxRecDepth 100000 in
set_option maxHeartbeats 4000000 in
theorem Empty_call {r : Rx} (h : r.size ≤ 1099511627776) : CallF Tryz.prog 16 [rx r] (.p (bool (validR r && accR r))) := by
  refine callF_of_code fn16 (Nat.le_of_ble_eq_true rfl) fun w0 M0 hM0 => ?_
  refine code_seq ?_
  refine code_ops _ rfl ?_
  refine ol_pure rfl rfl rfl (pure_box rfl rfl rfl hM0) ?_
  refine ol_pure rfl rfl rfl (pure_assign rfl rfl) ?_
  refine ol_nil ?_
  refine spk 9 [(1,_)] [] rfl rfl rfl ?_
  refine code_seq ?_
  refine code_ops _ rfl ?_
  refine ol_pure rfl rfl rfl (pure_load_agg rfl ag25 sz25 rfl (Nat.le_of_ble_eq_true rfl)) ?_
  refine ol_pure rfl rfl rfl (pure_call rfl rfl rfl (valid_call _ _ (Nat.le_refl _) h) hM0) ?_
  refine ol_pure rfl rfl rfl (pure_move rfl rfl) ?_
  refine ol_guard rfl (fun h1 => ?_) (fun h1 => ?_)
  ·have h1' := h1; try simp only [dq] at h1'
   refine ol_pure_g rfl rfl h1 rfl rfl (pure_load_agg rfl ag25 sz25 rfl (Nat.le_of_ble_eq_true rfl)) ?_
   refine ol_pure_g rfl rfl h1 rfl rfl (pure_call rfl rfl rfl (empty_call _ _ (Nat.le_refl _) h) hM0) ?_
   refine ol_pure rfl rfl rfl (pure_pick_t rfl rfl h1 rfl) ?_
   refine ol_pure rfl rfl rfl (pure_assign rfl rfl) ?_
   refine ol_nil ?_
   refine spk 9 [(2,_)] [] rfl rfl rfl ?_
   refine code_ret ?_
   refine end_ret rfl ?_
   simp_all
  ·have h1' := h1; try simp only [dq] at h1'
   refine ol_skip_g rfl rfl h1 rfl rfl ?_
   refine ol_skip_g rfl rfl h1 rfl rfl ?_
   refine ol_pure rfl rfl rfl (pure_pick_f rfl rfl h1 rfl) ?_
   refine ol_pure rfl rfl rfl (pure_assign rfl rfl) ?_
   refine ol_nil ?_
   refine spk 9 [(2,_)] [] rfl rfl rfl ?_
   refine code_ret ?_
   refine end_ret rfl ?_
   simp_all

end Go.Proofs.YtgdehkimfmfofaaGreat

