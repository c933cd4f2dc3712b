/-
  Contracts: the program's order of expressions.
-/
import Derived.Test.YtgdehkimfmfofaaGreatJ21
import Derived.Test.YtgdehkimfmfofaaGreatJ10
set_option linter.unusedVariables false
set_option linter.unusedSimpArgs false
namespace Go.Proofs.YtgdehkimfmfofaaGreat
open Go.Am Go.Wb
set_option linter.unusedVariables false
set_option linter.unusedSimpArgs false

theorem fn139 : Fn1 Tryz.prog 139 Tryz.f139.ntmps 2 (Tryz.f139.body.getD .skip) := ⟨Tryz.f139, Tryz.func139, rfl, rfl, rfl, by kernel_rfl⟩
theorem isnan_call {x : Int} : CallF Tryz.prog 139 [int x] (.p (bool false)) := by
  refine callF_of_code fn139 (Nat.le_of_ble_eq_true rfl) fun w0 M0 hM0 => ?_
  refine code_seq ?_
  refine code_ops _ rfl ?_
  refine ol_pure rfl rfl rfl (pure_assign rfl rfl) ?_
  refine ol_nil ?_
  refine spk 6 [(0,_)] [] rfl rfl rfl ?_
  refine code_seq ?_
  refine code_ops _ rfl ?_
  refine ol_pure rfl rfl rfl (pure_move rfl rfl) ?_
  refine ol_pure rfl rfl rfl (pure_move rfl rfl) ?_
  refine ol_pure rfl rfl rfl (pure_neq rfl rfl rfl) ?_
  refine ol_pure rfl rfl rfl (pure_assign rfl rfl) ?_
  refine ol_nil ?_
  refine spk 6 [(2,_)] [] rfl rfl rfl ?_
  refine code_ret ?_
  refine end_ret rfl ?_
  rw [decide_eq_true rfl]; rfl

theorem fn136 : Fn1 Tryz.prog 136 Tryz.f136.ntmps 4 (Tryz.f136.body.getD .skip) := ⟨Tryz.f136, Tryz.func136, rfl, rfl, rfl, by kernel_rfl⟩
theorem cmp_call {x y : Int} : CallF Tryz.prog 136 [int x, int y] (.p (int (orderI x y))) := by
  refine callF_of_code fn136 (Nat.le_of_ble_eq_true rfl) fun w0 M0 hM0 => ?_
  refine code_seq ?_
  refine code_ops _ rfl ?_
  refine ol_pure rfl rfl rfl (pure_assign rfl rfl) ?_
  refine ol_nil ?_
  refine spk 20 [(0,_),(1,_)] [] rfl rfl rfl ?_
  refine code_seq ?_
  refine code_ops _ rfl ?_
  refine ol_pure rfl rfl rfl (pure_move rfl rfl) ?_
  refine ol_pure rfl rfl rfl (pure_call rfl rfl rfl (isnan_call) hM0) ?_
  refine ol_pure rfl rfl rfl (pure_assign rfl rfl) ?_
  refine ol_nil ?_
  refine spk 20 [(0,_),(1,_),(5,_)] [] rfl rfl rfl ?_
  refine code_seq ?_
  refine code_ops _ rfl ?_
  refine ol_pure rfl rfl rfl (pure_move rfl rfl) ?_
  refine ol_pure rfl rfl rfl (pure_call rfl rfl rfl (isnan_call) hM0) ?_
  refine ol_pure rfl rfl rfl (pure_assign rfl rfl) ?_
  refine ol_nil ?_
  refine spk 20 [(0,_),(1,_),(5,_),(6,_)] [] rfl rfl rfl ?_
  refine code_seq ?_
  refine code_seq ?_
  refine code_ops _ rfl ?_
  refine ol_pure rfl rfl rfl (pure_move rfl rfl) ?_
  refine ol_nil ?_
  refine spk 20 [(0,_),(1,_),(6,_),(11,_)] [] rfl rfl rfl ?_
  refine code_cond rfl (fun h1 => ?_) (fun h1 => ?_)
  ·try simp only [dq] at h1
   cases h1 --done
  ·try simp only [dq] at h1
   refine code_skip ?_
   refine spk 20 [(0,_),(1,_),(6,_)] [] rfl rfl rfl ?_
   refine code_seq ?_
   refine code_seq ?_
   refine code_ops _ rfl ?_
   refine ol_pure rfl rfl rfl (pure_move rfl rfl) ?_
   refine ol_nil ?_
   refine spk 20 [(0,_),(1,_),(13,_)] [] rfl rfl rfl ?_
   refine code_cond rfl (fun h2 => ?_) (fun h2 => ?_)
   ·try simp only [dq] at h2
    cases h2 --done
   ·try simp only [dq] at h2
    refine code_skip ?_
    refine spk 20 [(0,_),(1,_)] [] rfl rfl rfl ?_
    refine code_seq ?_
    refine code_seq ?_
    refine code_ops _ rfl ?_
    refine ol_pure rfl rfl rfl (pure_move rfl rfl) ?_
    refine ol_pure rfl rfl rfl (pure_move rfl rfl) ?_
    refine ol_pure rfl rfl rfl (pure_lss rfl rfl rfl) ?_
    refine ol_nil ?_
    refine spk 20 [(0,_),(1,_),(16,_)] [] rfl rfl rfl ?_
    refine code_cond rfl (fun h3 => ?_) (fun h3 => ?_)
    ·try simp only [dq] at h3
     refine code_seq ?_
     refine code_ops _ rfl ?_
     refine ol_pure rfl rfl rfl (pure_assign rfl rfl) ?_
     refine ol_nil ?_
     refine spk 20 [(4,_)] [] rfl rfl rfl ?_
     refine code_ret ?_
     refine seqQ_ret ?_
     refine end_ret rfl ?_
     unfold orderI; first | rw [if_pos (by assumption)] | (rw [if_neg (by assumption), if_pos (by omega)]; done) | (rw [if_neg (by assumption), if_neg (by omega)]; done)
    ·try simp only [dq] at h3
     refine code_skip ?_
     refine spk 20 [(0,_),(1,_)] [] rfl rfl rfl ?_
     refine code_seq ?_
     refine code_seq ?_
     refine code_ops _ rfl ?_
     refine ol_pure rfl rfl rfl (pure_move rfl rfl) ?_
     refine ol_pure rfl rfl rfl (pure_move rfl rfl) ?_
     refine ol_pure rfl rfl rfl (pure_gtr rfl rfl rfl) ?_
     refine ol_nil ?_
     refine spk 20 [(19,_)] [] rfl rfl rfl ?_
     refine code_cond rfl (fun h4 => ?_) (fun h4 => ?_)
     ·try simp only [dq] at h4
      refine code_seq ?_
      refine code_ops _ rfl ?_
      refine ol_pure rfl rfl rfl (pure_assign rfl rfl) ?_
      refine ol_nil ?_
      refine spk 20 [(4,_)] [] rfl rfl rfl ?_
      refine code_ret ?_
      refine seqQ_ret ?_
      refine end_ret rfl ?_
      unfold orderI; first | rw [if_pos (by assumption)] | (rw [if_neg (by assumption), if_pos (by omega)]; done) | (rw [if_neg (by assumption), if_neg (by omega)]; done)
     ·try simp only [dq] at h4
      refine code_skip ?_
      refine spk 20 [] [] rfl rfl rfl ?_
      refine code_seq ?_
      refine code_ops _ rfl ?_
      refine ol_pure rfl rfl rfl (pure_assign rfl rfl) ?_
      refine ol_nil ?_
      refine spk 20 [(4,_)] [] rfl rfl rfl ?_
      refine code_ret ?_
      refine end_ret rfl ?_
      unfold orderI; first | rw [if_pos (by assumption)] | (rw [if_neg (by assumption), if_pos (by omega)]; done) | (rw [if_neg (by assumption), if_neg (by omega)]; done)

theorem fn135 : Fn1 Tryz.prog 135 Tryz.f135.ntmps 2 (Tryz.f135.body.getD .skip) := ⟨Tryz.f135, Tryz.func135, rfl, rfl, rfl, by kernel_rfl⟩
set_option maxRecDepth 100000 in
set_option maxHeartbeats 1000000 in
theorem or_call {l : List Int} (hl : l.length ≤ 1099511627776) : CallF Tryz.prog 135 [ints l] (.p (int (orI l))) := by
  refine callF_of_code fn135 (Nat.le_of_ble_eq_true rfl) fun w0 M0 hM0 => ?_
  refine code_seq ?_
  refine code_ops _ rfl ?_
  refine ol_pure rfl rfl rfl (pure_assign rfl rfl) ?_
  refine ol_nil ?_
  refine spk 18 [(0,_)] [] rfl rfl rfl ?_
  refine code_seq ?_
  refine code_ops _ rfl ?_
  refine ol_pure rfl rfl rfl (pure_assign rfl rfl) ?_
  refine ol_nil ?_
  refine spk 18 [(0,_),(3,_)] [] rfl rfl rfl ?_
  refine code_seq ?_
  refine code_seq ?_
  refine code_ops _ rfl ?_
  refine ol_pure rfl rfl rfl (pure_move rfl rfl) ?_
  refine ol_pure rfl rfl rfl (pure_lenm rfl Tryz.underlying22 rfl) ?_
  refine ol_pure rfl rfl rfl (pure_move rfl rfl) ?_
  refine ol_nil ?_
  refine spk 18 [(3,_),(6,_),(7,_),(8,_)] [] rfl rfl rfl ?_
  refine code_block ?_
  refine code_loopM (fun zm zs => ∃ k : Nat, zm = l.length - k ∧ (k ≤ l.length) ∧ (orI l = orI (l.drop k)) ∧ zs = ⟨18, [(3, .v .pl (int 0)), (6, .v .mx (ints l)), (7, .v .pl (int l.length)), (8, .v .pl (int k))], []⟩) (loop_init (n := 18) (l := [(3, _), (6, _), (7, _), (8, _)]) (o' := []) rfl ⟨rfl, rfl, rfl, rfl, trivial⟩ trivial ?_) ?_
  ·exact ⟨_, 0, rfl, Nat.zero_le _, rfl, rfl⟩
  ·rintro zm zs ⟨k, rfl, hL1_0, hL1_1, rfl⟩
   refine code_seq ?_
   refine code_ops _ rfl ?_
   refine ol_pure rfl rfl rfl (pure_lss rfl rfl rfl) ?_
   refine ol_nil ?_
   refine spk 18 [(3,_),(6,_),(7,_),(8,_),(9,_)] [] rfl rfl rfl ?_
   refine code_seq ?_
   refine code_cond rfl (fun h1 => ?_) (fun h1 => ?_)
   ·try simp only [dq] at h1
    refine code_skip ?_
    refine spk 18 [(3,_),(6,_),(7,_),(8,_)] [] rfl rfl rfl ?_
    refine code_seq ?_
    refine code_block ?_
    refine code_seq ?_
    refine code_ops _ rfl ?_
    first | refine ol_pure rfl rfl rfl (pure_indexn rfl Tryz.underlying22 sz3 rfl rfl (by omega) (fun _ => rfl)) ?_ | refine ol_pure rfl rfl rfl (pure_indexm rfl Tryz.underlying22 sz3 rfl rfl (by omega) (fun _ => rfl)) ?_
    refine ol_pure rfl rfl rfl (pure_load rfl ag3 rfl rfl) ?_
    refine ol_pure rfl rfl rfl (pure_assign rfl rfl) ?_
    refine ol_nil ?_
    refine spk 18 [(3,_),(5,_),(6,_),(7,_),(8,_)] [] rfl rfl rfl ?_
    refine code_seq ?_
    refine code_ops _ rfl ?_
    refine ol_pure rfl rfl rfl (pure_move rfl rfl) ?_
    refine ol_pure rfl rfl rfl (pure_move rfl rfl) ?_
    refine ol_pure rfl rfl rfl (pure_neq rfl rfl rfl) ?_
    refine ol_nil ?_
    refine spk 18 [(3,_),(5,_),(6,_),(7,_),(8,_),(14,_)] [] rfl rfl rfl ?_
    refine code_cond rfl (fun h2 => ?_) (fun h2 => ?_)
    ·try simp only [dq] at h2
     refine code_seq ?_
     refine code_ops _ rfl ?_
     refine ol_pure rfl rfl rfl (pure_move rfl rfl) ?_
     refine ol_pure rfl rfl rfl (pure_assign rfl rfl) ?_
     refine ol_nil ?_
     refine spk 18 [(2,_)] [] rfl rfl rfl ?_
     refine code_ret ?_
     refine blockQ_ret ?_
     refine seqQ_ret ?_
     refine loopM_ret ?_
     refine blockQ_ret ?_
     refine seqQ_ret ?_
     refine end_ret rfl ?_
     rw [hL1_1, orI_step (by omega), thn_ne (by assumption)]
    ·try simp only [dq] at h2
     refine code_skip ?_
     refine blockQ_normal ?_
     refine spk 18 [(3,_),(6,_),(7,_),(8,_)] [] rfl rfl rfl ?_
     refine code_ops _ rfl ?_
     refine ol_pure rfl rfl rfl (pure_addi rfl rfl rfl (by omega)) ?_
     refine ol_pure rfl rfl rfl (pure_move rfl rfl) ?_
     refine ol_nil ?_
     refine loop_next (n := 18) (l := [(3, _), (6, _), (7, _), (8, _)]) (o' := []) rfl ⟨rfl, rfl, rfl, rfl, trivial⟩ trivial ?_
     exact ⟨_, ⟨k + 1, rfl, by omega, by rw [hL1_1, orI_step (by omega), thn_zero (by omega)], rfl⟩, by omega⟩
   ·try simp only [dq] at h1
    refine code_exit ?_
    refine seqQ_exit ?_
    refine loopM_exit ?_
    refine blockQ_same ?_
    refine spk 18 [(3,_)] [] rfl rfl rfl ?_
    refine code_seq ?_
    refine code_ops _ rfl ?_
    refine ol_pure rfl rfl rfl (pure_move rfl rfl) ?_
    refine ol_pure rfl rfl rfl (pure_assign rfl rfl) ?_
    refine ol_nil ?_
    refine spk 18 [(2,_)] [] rfl rfl rfl ?_
    refine code_ret ?_
    refine end_ret rfl ?_
    rw [hL1_1, List.drop_of_length_le (by omega)]; rfl

theorem fn137 : Fn1 Tryz.prog 137 Tryz.f137.ntmps 4 (Tryz.f137.body.getD .skip) := ⟨Tryz.f137, Tryz.func137, rfl, rfl, rfl, by kernel_rfl⟩
set_option maxRecDepth 100000 in
set_option maxHeartbeats 1000000 in
theorem scompare_call {a b : List Int} (ha : a.length ≤ 1099511627776) (hb : b.length ≤ 1099511627776) : CallF Tryz.prog 137 [ints a, ints b] (.p (int (orderL a b))) := by
  refine callF_of_code fn137 (Nat.le_of_ble_eq_true rfl) fun w0 M0 hM0 => ?_
  refine code_seq ?_
  refine code_ops _ rfl ?_
  refine ol_pure rfl rfl rfl (pure_assign rfl rfl) ?_
  refine ol_nil ?_
  refine spk 36 [(0,_),(1,_)] [] rfl rfl rfl ?_
  refine code_seq ?_
  refine code_seq ?_
  refine code_ops _ rfl ?_
  refine ol_pure rfl rfl rfl (pure_move rfl rfl) ?_
  refine ol_pure rfl rfl rfl (pure_lenm rfl Tryz.underlying22 rfl) ?_
  refine ol_pure rfl rfl rfl (pure_move rfl rfl) ?_
  refine ol_nil ?_
  refine spk 36 [(0,_),(1,_),(9,_),(10,_),(11,_)] [] rfl rfl rfl ?_
  refine code_block ?_
  refine code_loopM (fun zm zs => ∃ k : Nat, zm = a.length - k ∧ (k ≤ a.length) ∧ (k ≤ b.length) ∧ (orderL a b = orderL (a.drop k) (b.drop k)) ∧ zs = ⟨36, [(0, .v .mx (ints a)), (1, .v .mx (ints b)), (9, .v .mx (ints a)), (10, .v .pl (int a.length)), (11, .v .pl (int k))], []⟩) (loop_init (n := 36) (l := [(0, _), (1, _), (9, _), (10, _), (11, _)]) (o' := []) rfl ⟨rfl, rfl, rfl, rfl, rfl, trivial⟩ trivial ?_) ?_
  ·exact ⟨_, 0, rfl, Nat.zero_le _, Nat.zero_le _, rfl, rfl⟩
  ·rintro zm zs ⟨k, rfl, hL1_0, hL1_1, hL1_2, rfl⟩
   refine code_seq ?_
   refine code_ops _ rfl ?_
   refine ol_pure rfl rfl rfl (pure_lss rfl rfl rfl) ?_
   refine ol_nil ?_
   refine spk 36 [(0,_),(1,_),(9,_),(10,_),(11,_),(12,_)] [] rfl rfl rfl ?_
   refine code_seq ?_
   refine code_cond rfl (fun h1 => ?_) (fun h1 => ?_)
   ·try simp only [dq] at h1
    refine code_skip ?_
    refine spk 36 [(0,_),(1,_),(9,_),(10,_),(11,_)] [] rfl rfl rfl ?_
    refine code_seq ?_
    refine code_block ?_
    refine code_seq ?_
    refine code_ops _ rfl ?_
    refine ol_pure rfl rfl rfl (pure_move rfl rfl) ?_
    first | refine ol_pure rfl rfl rfl (pure_indexn rfl Tryz.underlying22 sz3 rfl rfl (by omega) (fun _ => rfl)) ?_ | refine ol_pure rfl rfl rfl (pure_indexm rfl Tryz.underlying22 sz3 rfl rfl (by omega) (fun _ => rfl)) ?_
    refine ol_pure rfl rfl rfl (pure_load rfl ag3 rfl rfl) ?_
    refine ol_pure rfl rfl rfl (pure_assign rfl rfl) ?_
    refine ol_pure rfl rfl rfl (pure_assign rfl rfl) ?_
    refine ol_nil ?_
    refine spk 36 [(0,_),(1,_),(5,_),(6,_),(9,_),(10,_),(11,_)] [] rfl rfl rfl ?_
    refine code_seq ?_
    refine code_seq ?_
    refine code_ops _ rfl ?_
    refine ol_pure rfl rfl rfl (pure_move rfl rfl) ?_
    refine ol_pure rfl rfl rfl (pure_move rfl rfl) ?_
    refine ol_pure rfl rfl rfl (pure_lenm rfl Tryz.underlying22 rfl) ?_
    refine ol_pure rfl rfl rfl (pure_geq rfl rfl rfl) ?_
    refine ol_nil ?_
    refine spk 36 [(0,_),(1,_),(5,_),(6,_),(9,_),(10,_),(11,_),(19,_)] [] rfl rfl rfl ?_
    refine code_cond rfl (fun h2 => ?_) (fun h2 => ?_)
    ·try simp only [dq] at h2
     refine code_seq ?_
     refine code_ops _ rfl ?_
     refine ol_pure rfl rfl rfl (pure_assign rfl rfl) ?_
     refine ol_nil ?_
     refine spk 36 [(4,_)] [] rfl rfl rfl ?_
     refine code_ret ?_
     refine seqQ_ret ?_
     refine blockQ_ret ?_
     refine seqQ_ret ?_
     refine loopM_ret ?_
     refine blockQ_ret ?_
     refine seqQ_ret ?_
     refine end_ret rfl ?_
     rw [hL1_2]; first | (rw [orderL_end (by omega) (by omega) (by omega), orderI_gt (by omega)]; done) | (rw [orderL_step (by omega) (by omega), thn_ne (by assumption)]; done) | (rw [orderL_end (by omega) (by omega) (by omega), orderI_lt (by omega)]; done) | (rw [orderL_end (by omega) (by omega) (by omega), show a.length = b.length by omega, orderI_nn])
    ·try simp only [dq] at h2
     refine code_skip ?_
     refine spk 36 [(0,_),(1,_),(5,_),(6,_),(9,_),(10,_),(11,_)] [] rfl rfl rfl ?_
     refine code_seq ?_
     refine code_ops _ rfl ?_
     refine ol_pure rfl rfl rfl (pure_move rfl rfl) ?_
     refine ol_pure rfl rfl rfl (pure_move rfl rfl) ?_
     first | refine ol_pure rfl rfl rfl (pure_indexn rfl Tryz.underlying22 sz3 rfl rfl (by omega) (fun _ => rfl)) ?_ | refine ol_pure rfl rfl rfl (pure_indexm rfl Tryz.underlying22 sz3 rfl rfl (by omega) (fun _ => rfl)) ?_
     refine ol_pure rfl rfl rfl (pure_load rfl ag3 rfl rfl) ?_
     refine ol_pure rfl rfl rfl (pure_assign rfl rfl) ?_
     refine ol_nil ?_
     refine spk 36 [(0,_),(1,_),(6,_),(7,_),(9,_),(10,_),(11,_)] [] rfl rfl rfl ?_
     refine code_seq ?_
     refine code_ops _ rfl ?_
     refine ol_pure rfl rfl rfl (pure_move rfl rfl) ?_
     refine ol_pure rfl rfl rfl (pure_move rfl rfl) ?_
     refine ol_pure rfl rfl rfl (pure_call rfl rfl rfl (cmp_call) hM0) ?_
     refine ol_pure rfl rfl rfl (pure_assign rfl rfl) ?_
     refine ol_nil ?_
     refine spk 36 [(0,_),(1,_),(8,_),(9,_),(10,_),(11,_)] [] rfl rfl rfl ?_
     refine code_seq ?_
     refine code_ops _ rfl ?_
     refine ol_pure rfl rfl rfl (pure_move rfl rfl) ?_
     refine ol_pure rfl rfl rfl (pure_neq rfl rfl rfl) ?_
     refine ol_nil ?_
     refine spk 36 [(0,_),(1,_),(8,_),(9,_),(10,_),(11,_),(28,_)] [] rfl rfl rfl ?_
     refine code_cond rfl (fun h3 => ?_) (fun h3 => ?_)
     ·try simp only [dq] at h3
      refine code_seq ?_
      refine code_ops _ rfl ?_
      refine ol_pure rfl rfl rfl (pure_move rfl rfl) ?_
      refine ol_pure rfl rfl rfl (pure_assign rfl rfl) ?_
      refine ol_nil ?_
      refine spk 36 [(4,_)] [] rfl rfl rfl ?_
      refine code_ret ?_
      refine blockQ_ret ?_
      refine seqQ_ret ?_
      refine loopM_ret ?_
      refine blockQ_ret ?_
      refine seqQ_ret ?_
      refine end_ret rfl ?_
      rw [hL1_2]; first | (rw [orderL_end (by omega) (by omega) (by omega), orderI_gt (by omega)]; done) | (rw [orderL_step (by omega) (by omega), thn_ne (by assumption)]; done) | (rw [orderL_end (by omega) (by omega) (by omega), orderI_lt (by omega)]; done) | (rw [orderL_end (by omega) (by omega) (by omega), show a.length = b.length by omega, orderI_nn])
     ·try simp only [dq] at h3
      refine code_skip ?_
      refine blockQ_normal ?_
      refine spk 36 [(0,_),(1,_),(9,_),(10,_),(11,_)] [] rfl rfl rfl ?_
      refine code_ops _ rfl ?_
      refine ol_pure rfl rfl rfl (pure_addi rfl rfl rfl (by omega)) ?_
      refine ol_pure rfl rfl rfl (pure_move rfl rfl) ?_
      refine ol_nil ?_
      refine loop_next (n := 36) (l := [(0, _), (1, _), (9, _), (10, _), (11, _)]) (o' := []) rfl ⟨rfl, rfl, rfl, rfl, rfl, trivial⟩ trivial ?_
      exact ⟨_, ⟨k + 1, rfl, by omega, by omega, by rw [hL1_2, orderL_step (by omega) (by omega), thn_zero (by omega)], rfl⟩, by omega⟩
   ·try simp only [dq] at h1
    refine code_exit ?_
    refine seqQ_exit ?_
    refine loopM_exit ?_
    refine blockQ_same ?_
    refine spk 36 [(0,_),(1,_)] [] rfl rfl rfl ?_
    refine code_seq ?_
    refine code_seq ?_
    refine code_ops _ rfl ?_
    refine ol_pure rfl rfl rfl (pure_move rfl rfl) ?_
    refine ol_pure rfl rfl rfl (pure_lenm rfl Tryz.underlying22 rfl) ?_
    refine ol_pure rfl rfl rfl (pure_move rfl rfl) ?_
    refine ol_pure rfl rfl rfl (pure_lenm rfl Tryz.underlying22 rfl) ?_
    refine ol_pure rfl rfl rfl (pure_lss rfl rfl rfl) ?_
    refine ol_nil ?_
    refine spk 36 [(35,_)] [] rfl rfl rfl ?_
    refine code_cond rfl (fun h4 => ?_) (fun h4 => ?_)
    ·try simp only [dq] at h4
     refine code_seq ?_
     refine code_ops _ rfl ?_
     refine ol_pure rfl rfl rfl (pure_assign rfl rfl) ?_
     refine ol_nil ?_
     refine spk 36 [(4,_)] [] rfl rfl rfl ?_
     refine code_ret ?_
     refine seqQ_ret ?_
     refine end_ret rfl ?_
     rw [hL1_2]; first | (rw [orderL_end (by omega) (by omega) (by omega), orderI_gt (by omega)]; done) | (rw [orderL_step (by omega) (by omega), thn_ne (by assumption)]; done) | (rw [orderL_end (by omega) (by omega) (by omega), orderI_lt (by omega)]; done) | (rw [orderL_end (by omega) (by omega) (by omega), show a.length = b.length by omega, orderI_nn])
    ·try simp only [dq] at h4
     refine code_skip ?_
     refine spk 36 [] [] rfl rfl rfl ?_
     refine code_seq ?_
     refine code_ops _ rfl ?_
     refine ol_pure rfl rfl rfl (pure_assign rfl rfl) ?_
     refine ol_nil ?_
     refine spk 36 [(4,_)] [] rfl rfl rfl ?_
     refine code_ret ?_
     refine end_ret rfl ?_
     rw [hL1_2]; first | (rw [orderL_end (by omega) (by omega) (by omega), orderI_gt (by omega)]; done) | (rw [orderL_step (by omega) (by omega), thn_ne (by assumption)]; done) | (rw [orderL_end (by omega) (by omega) (by omega), orderI_lt (by omega)]; done) | (rw [orderL_end (by omega) (by omega) (by omega), show a.length = b.length by omega, orderI_nn])

theorem fn138 : Fn1 Tryz.prog 138 Tryz.f138.ntmps 6 (Tryz.f138.body.getD .skip) := ⟨Tryz.f138, Tryz.func138, rfl, rfl, rfl, by kernel_rfl⟩
set_option maxRecDepth 100000 in
set_option maxHeartbeats 1000000 in
theorem cfun_call {a b : List Rx} {g : FuncId} (ha : a.length ≤ 1099511627776) (hb : b.length ≤ 1099511627776) (hf : ∀ x ∈ a, ∀ y ∈ b, CallF Tryz.prog g [rx x, rx y] (.p (int (cmpR x y)))) :
    CallF Tryz.prog 138 [rxs a, rxs b, .clo g []] (.p (int (cmpRs a b))) := by
  refine callF_of_code fn138 (Nat.le_of_ble_eq_true rfl) fun w0 M0 hM0 => ?_
  refine code_seq ?_
  refine code_ops _ rfl ?_
  refine ol_pure rfl rfl rfl (pure_assign rfl rfl) ?_
  refine ol_nil ?_
  refine spk 39 [(0,_),(1,_),(2,_)] [] rfl rfl rfl ?_
  refine code_seq ?_
  refine code_seq ?_
  refine code_ops _ rfl ?_
  refine ol_pure rfl rfl rfl (pure_move rfl rfl) ?_
  refine ol_pure rfl rfl rfl (pure_lenm rfl Tryz.underlying23 rfl) ?_
  refine ol_pure rfl rfl rfl (pure_move rfl rfl) ?_
  refine ol_nil ?_
  refine spk 39 [(0,_),(1,_),(2,_),(11,_),(12,_),(13,_)] [] rfl rfl rfl ?_
  refine code_block ?_
  refine code_loopM (fun zm zs => ∃ k : Nat, zm = a.length - k ∧ (k ≤ a.length) ∧ (k ≤ b.length) ∧ (cmpRs a b = cmpRs (a.drop k) (b.drop k)) ∧ zs = ⟨39, [(0, .v .mx (rxs a)), (1, .v .mx (rxs b)), (2, .v .mx (.clo g [])), (11, .v .mx (rxs a)), (12, .v .pl (int a.length)), (13, .v .pl (int k))], []⟩) (loop_init (n := 39) (l := [(0, _), (1, _), (2, _), (11, _), (12, _), (13, _)]) (o' := []) rfl ⟨rfl, rfl, rfl, rfl, rfl, rfl, trivial⟩ trivial ?_) ?_
  ·exact ⟨_, 0, rfl, Nat.zero_le _, Nat.zero_le _, rfl, rfl⟩
  ·rintro zm zs ⟨k, rfl, hL1_0, hL1_1, hL1_2, rfl⟩
   refine code_seq ?_
   refine code_ops _ rfl ?_
   refine ol_pure rfl rfl rfl (pure_lss rfl rfl rfl) ?_
   refine ol_nil ?_
   refine spk 39 [(0,_),(1,_),(2,_),(11,_),(12,_),(13,_),(14,_)] [] rfl rfl rfl ?_
   refine code_seq ?_
   refine code_cond rfl (fun h1 => ?_) (fun h1 => ?_)
   ·try simp only [dq] at h1
    refine code_skip ?_
    refine spk 39 [(0,_),(1,_),(2,_),(11,_),(12,_),(13,_)] [] rfl rfl rfl ?_
    refine code_seq ?_
    refine code_block ?_
    refine code_seq ?_
    refine code_ops _ rfl ?_
    refine ol_pure rfl rfl rfl (pure_move rfl rfl) ?_
    first | refine ol_pure rfl rfl rfl (pure_indexn rfl Tryz.underlying23 sz25 rfl rfl (by omega) (fun _ => rfl)) ?_ | refine ol_pure rfl rfl rfl (pure_indexm rfl Tryz.underlying23 sz25 rfl rfl (by omega) (fun _ => rfl)) ?_
    refine ol_pure rfl rfl rfl (pure_load_agg rfl ag25 sz25 rfl (Nat.le_of_ble_eq_true rfl)) ?_
    refine ol_step rfl (step_alloc rfl rfl rfl rfl rfl ze25 rfl hM0) ?_
    refine ol_pure rfl rfl rfl (pure_assign rfl rfl) ?_
    refine ol_step rfl (step_store_box rfl rfl rfl sz25 rfl rfl rfl rfl (by decide) rfl rfl hM0) ?_
    refine ol_nil ?_
    refine spk 39 [(0,_),(1,_),(2,_),(7,_),(8,_),(11,_),(12,_),(13,_)] [(8,_)] rfl rfl rfl ?_
    refine code_seq ?_
    refine code_seq ?_
    refine code_ops _ rfl ?_
    refine ol_pure rfl rfl rfl (pure_move rfl rfl) ?_
    refine ol_pure rfl rfl rfl (pure_move rfl rfl) ?_
    refine ol_pure rfl rfl rfl (pure_lenm rfl Tryz.underlying23 rfl) ?_
    refine ol_pure rfl rfl rfl (pure_geq rfl rfl rfl) ?_
    refine ol_nil ?_
    refine spk 39 [(0,_),(1,_),(2,_),(7,_),(8,_),(11,_),(12,_),(13,_),(21,_)] [(8,_)] rfl rfl rfl ?_
    refine code_cond rfl (fun h2 => ?_) (fun h2 => ?_)
    ·try simp only [dq] at h2
     refine code_seq ?_
     refine code_ops _ rfl ?_
     refine ol_pure rfl rfl rfl (pure_assign rfl rfl) ?_
     refine ol_nil ?_
     refine spk 39 [(6,_)] [] rfl rfl rfl ?_
     refine code_ret ?_
     refine seqQ_ret ?_
     refine blockQ_ret ?_
     refine seqQ_ret ?_
     refine loopM_ret ?_
     refine blockQ_ret ?_
     refine seqQ_ret ?_
     refine end_ret rfl ?_
     rw [hL1_2]; first | (rw [cmpRs_end (by omega) (by omega) (by omega), orderI_gt (by omega)]; done) | (rw [cmpRs_step (by omega) (by omega), thn_ne (by assumption)]; done) | (rw [cmpRs_end (by omega) (by omega) (by omega), orderI_lt (by omega)]; done) | (rw [cmpRs_end (by omega) (by omega) (by omega), show a.length = b.length by omega, orderI_nn])
    ·try simp only [dq] at h2
     refine code_skip ?_
     refine spk 39 [(0,_),(1,_),(2,_),(7,_),(8,_),(11,_),(12,_),(13,_)] [(8,_)] rfl rfl rfl ?_
     refine code_seq ?_
     refine code_ops _ rfl ?_
     refine ol_pure rfl rfl rfl (pure_move rfl rfl) ?_
     refine ol_pure rfl rfl rfl (pure_move rfl rfl) ?_
     first | refine ol_pure rfl rfl rfl (pure_indexn rfl Tryz.underlying23 sz25 rfl rfl (by omega) (fun _ => rfl)) ?_ | refine ol_pure rfl rfl rfl (pure_indexm rfl Tryz.underlying23 sz25 rfl rfl (by omega) (fun _ => rfl)) ?_
     refine ol_pure rfl rfl rfl (pure_load_agg rfl ag25 sz25 rfl (Nat.le_of_ble_eq_true rfl)) ?_
     refine ol_step rfl (step_alloc rfl rfl rfl rfl rfl ze25 rfl hM0) ?_
     refine ol_step rfl (step_store_box rfl rfl rfl sz25 rfl rfl rfl rfl (by decide) rfl rfl hM0) ?_
     refine ol_nil ?_
     refine spk 39 [(0,_),(1,_),(2,_),(8,_),(9,_),(11,_),(12,_),(13,_)] [(8,_),(9,_)] rfl rfl rfl ?_
     refine code_seq ?_
     refine code_ops _ rfl ?_
     refine ol_pure rfl rfl rfl (pure_move rfl rfl) ?_
     refine ol_pure rfl rfl rfl (pure_load_box_agg rfl ag25 sz25 rfl rfl rfl rfl) ?_
     refine ol_pure rfl rfl rfl (pure_load_box_agg rfl ag25 sz25 rfl rfl rfl rfl) ?_
     refine ol_pure rfl rfl rfl (pure_call rfl rfl rfl (hf _ (kid_mem (by omega)) _ (kid_mem (by omega))) hM0) ?_
     refine ol_pure rfl rfl rfl (pure_assign rfl rfl) ?_
     refine ol_nil ?_
     refine spk 39 [(0,_),(1,_),(2,_),(10,_),(11,_),(12,_),(13,_)] [] rfl rfl rfl ?_
     refine code_seq ?_
     refine code_ops _ rfl ?_
     refine ol_pure rfl rfl rfl (pure_move rfl rfl) ?_
     refine ol_pure rfl rfl rfl (pure_neq rfl rfl rfl) ?_
     refine ol_nil ?_
     refine spk 39 [(0,_),(1,_),(2,_),(10,_),(11,_),(12,_),(13,_),(31,_)] [] rfl rfl rfl ?_
     refine code_cond rfl (fun h3 => ?_) (fun h3 => ?_)
     ·try simp only [dq] at h3
      refine code_seq ?_
      refine code_ops _ rfl ?_
      refine ol_pure rfl rfl rfl (pure_move rfl rfl) ?_
      refine ol_pure rfl rfl rfl (pure_assign rfl rfl) ?_
      refine ol_nil ?_
      refine spk 39 [(6,_)] [] rfl rfl rfl ?_
      refine code_ret ?_
      refine blockQ_ret ?_
      refine seqQ_ret ?_
      refine loopM_ret ?_
      refine blockQ_ret ?_
      refine seqQ_ret ?_
      refine end_ret rfl ?_
      rw [hL1_2]; first | (rw [cmpRs_end (by omega) (by omega) (by omega), orderI_gt (by omega)]; done) | (rw [cmpRs_step (by omega) (by omega), thn_ne (by assumption)]; done) | (rw [cmpRs_end (by omega) (by omega) (by omega), orderI_lt (by omega)]; done) | (rw [cmpRs_end (by omega) (by omega) (by omega), show a.length = b.length by omega, orderI_nn])
     ·try simp only [dq] at h3
      refine code_skip ?_
      refine blockQ_normal ?_
      refine spk 39 [(0,_),(1,_),(2,_),(11,_),(12,_),(13,_)] [] rfl rfl rfl ?_
      refine code_ops _ rfl ?_
      refine ol_pure rfl rfl rfl (pure_addi rfl rfl rfl (by omega)) ?_
      refine ol_pure rfl rfl rfl (pure_move rfl rfl) ?_
      refine ol_nil ?_
      refine loop_next (n := 39) (l := [(0, _), (1, _), (2, _), (11, _), (12, _), (13, _)]) (o' := []) rfl ⟨rfl, rfl, rfl, rfl, rfl, rfl, trivial⟩ trivial ?_
      exact ⟨_, ⟨k + 1, rfl, by omega, by omega, by rw [hL1_2, cmpRs_step (by omega) (by omega), thn_zero (by omega)], rfl⟩, by omega⟩
   ·try simp only [dq] at h1
    refine code_exit ?_
    refine seqQ_exit ?_
    refine loopM_exit ?_
    refine blockQ_same ?_
    refine spk 39 [(0,_),(1,_)] [] rfl rfl rfl ?_
    refine code_seq ?_
    refine code_seq ?_
    refine code_ops _ rfl ?_
    refine ol_pure rfl rfl rfl (pure_move rfl rfl) ?_
    refine ol_pure rfl rfl rfl (pure_lenm rfl Tryz.underlying23 rfl) ?_
    refine ol_pure rfl rfl rfl (pure_move rfl rfl) ?_
    refine ol_pure rfl rfl rfl (pure_lenm rfl Tryz.underlying23 rfl) ?_
    refine ol_pure rfl rfl rfl (pure_lss rfl rfl rfl) ?_
    refine ol_nil ?_
    refine spk 39 [(38,_)] [] rfl rfl rfl ?_
    refine code_cond rfl (fun h4 => ?_) (fun h4 => ?_)
    ·try simp only [dq] at h4
     refine code_seq ?_
     refine code_ops _ rfl ?_
     refine ol_pure rfl rfl rfl (pure_assign rfl rfl) ?_
     refine ol_nil ?_
     refine spk 39 [(6,_)] [] rfl rfl rfl ?_
     refine code_ret ?_
     refine seqQ_ret ?_
     refine end_ret rfl ?_
     rw [hL1_2]; first | (rw [cmpRs_end (by omega) (by omega) (by omega), orderI_gt (by omega)]; done) | (rw [cmpRs_step (by omega) (by omega), thn_ne (by assumption)]; done) | (rw [cmpRs_end (by omega) (by omega) (by omega), orderI_lt (by omega)]; done) | (rw [cmpRs_end (by omega) (by omega) (by omega), show a.length = b.length by omega, orderI_nn])
    ·try simp only [dq] at h4
     refine code_skip ?_
     refine spk 39 [] [] rfl rfl rfl ?_
     refine code_seq ?_
     refine code_ops _ rfl ?_
     refine ol_pure rfl rfl rfl (pure_assign rfl rfl) ?_
     refine ol_nil ?_
     refine spk 39 [(6,_)] [] rfl rfl rfl ?_
     refine code_ret ?_
     refine end_ret rfl ?_
     rw [hL1_2]; first | (rw [cmpRs_end (by omega) (by omega) (by omega), orderI_gt (by omega)]; done) | (rw [cmpRs_step (by omega) (by omega), thn_ne (by assumption)]; done) | (rw [cmpRs_end (by omega) (by omega) (by omega), orderI_lt (by omega)]; done) | (rw [cmpRs_end (by omega) (by omega) (by omega), show a.length = b.length by omega, orderI_nn])

theorem fn115 : Fn1 Tryz.prog 115 Tryz.f115.ntmps 4 (Tryz.f115.body.getD .skip) := ⟨Tryz.f115, Tryz.func115, rfl, rfl, rfl, by kernel_rfl⟩
set_option maxRecDepth 100000 in
set_option maxHeartbeats 4000000 in
theorem compare_call : ∀ (m : Nat) (a b : Rx), a.size ≤ m → b.size ≤ 1099511627776 → m ≤ 1099511627776 → CallF Tryz.prog 115 [rx a, rx b] (.p (int (cmpR a b))) := by
  intro m
  induction m with
  | zero => intro a b hr _ _; have := size_pos a; omega
  | succ m ih =>
  intro a b ha hb hm
  have hka := kids_len a
  have hsa := syms_len a
  have hkb := kids_len b
  have hsb := syms_len b
  rw [rx_eq a, rx_eq b]
  refine callF_of_code fn115 (Nat.le_of_ble_eq_true rfl) fun w0 M0 hM0 => ?_
  refine code_seq ?_
  refine code_ops _ rfl ?_
  refine ol_pure rfl rfl rfl (pure_box rfl rfl rfl hM0) ?_
  refine ol_pure rfl rfl rfl (pure_box rfl rfl rfl hM0) ?_
  refine ol_pure rfl rfl rfl (pure_assign rfl rfl) ?_
  refine ol_nil ?_
  refine spk 22 [(2,_),(3,_)] [] rfl rfl rfl ?_
  refine code_seq ?_
  refine code_draw mixed (by kernel_rfl) _ rfl ?_
  refine dl_pure rfl rfl rfl (pure_field rfl fd25_0 rfl) ?_
  refine dl_pure rfl rfl rfl (pure_load rfl ag3 rfl rfl) ?_
  refine dl_pure rfl rfl rfl (pure_field rfl fd25_0 rfl) ?_
  refine dl_pure rfl rfl rfl (pure_load rfl ag3 rfl rfl) ?_
  refine dl_pure rfl rfl rfl (pure_call rfl rfl rfl (cmp_call) hM0) ?_
  refine dl_pure rfl rfl rfl (pure_field rfl fd25_1 rfl) ?_
  refine dl_pure rfl rfl rfl (pure_load rfl ag22 rfl rfl) ?_
  refine dpk 22 [(2,_),(3,_),(9,_),(11,_)] [] rfl rfl rfl ?_
  refine dl_pure rfl rfl rfl (pure_field rfl fd25_1 rfl) ?_
  refine dl_pure rfl rfl rfl (pure_load rfl ag22 rfl rfl) ?_
  refine dl_pure rfl rfl rfl (pure_call rfl rfl rfl (scompare_call (by omega) (by omega)) hM0) ?_
  refine dl_pure rfl rfl rfl (pure_field rfl fd25_2 rfl) ?_
  refine dl_pure rfl rfl rfl (pure_load rfl ag23 rfl rfl) ?_
  refine dl_pure rfl rfl rfl (pure_field rfl fd25_2 rfl) ?_
  refine dl_pure rfl rfl rfl (pure_load rfl ag23 rfl rfl) ?_
  refine dpk 22 [(9,_),(14,_),(16,_),(18,_)] [] rfl rfl rfl ?_
  refine dl_pure rfl rfl rfl (pure_call rfl rfl rfl (cfun_call (by omega) (by omega) (fun x hx y hy => ih x y (Nat.le_of_lt_succ (Nat.lt_of_lt_of_le (size_kid hx) ha)) (Nat.le_trans (Nat.le_of_lt (size_kid hy)) hb) (by omega))) hM0) ?_
  refine dl_pure rfl rfl rfl (pure_lit rfl Tryz.underlying22 el3 rfl rfl rfl rfl hM0) ?_
  refine dl_pure rfl rfl rfl (pure_call rfl rfl rfl (or_call (l := [orderI a.kind b.kind, orderL a.syms b.syms, cmpRs a.kids b.kids]) (by simp)) hM0) ?_
  refine dl_pure rfl rfl rfl (pure_assign rfl rfl) ?_
  refine dl_nil ?_
  refine spk 22 [(4,_)] [] rfl rfl rfl ?_
  refine code_ret ?_
  refine end_ret rfl ?_
  rw [cmpR_or]
end Go.Proofs.YtgdehkimfmfofaaGreat

