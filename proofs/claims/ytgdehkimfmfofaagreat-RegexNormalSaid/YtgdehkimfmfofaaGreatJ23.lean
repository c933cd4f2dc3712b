/-
  Contracts: the reference's order of expressions.
-/
import Derived.Test.YtgdehkimfmfofaaGreatJ21
set_option linter.unusedVariables false
set_option linter.unusedSimpArgs false
namespace Go.Proofs.YtgdehkimfmfofaaGreat
open Go.Am Go.Wb
set_option linter.unusedVariables false
set_option linter.unusedSimpArgs false

theorem fn50 : Fn1 Tryz.prog 50 Tryz.f50.ntmps 4 (Tryz.f50.body.getD .skip) := ⟨Tryz.f50, Tryz.func50, rfl, rfl, rfl, by kernel_rfl⟩
set_option maxRecDepth 100000 in
set_option maxHeartbeats 4000000 in
theorem rcompare_call : ∀ (m : Nat) (a b : Rx), a.size ≤ m → m ≤ 1099511627776 → b.size ≤ 1099511627776 → CallF Tryz.prog 50 [rx a, rx b] (.p (int (cmpR a b))) := by
  intro m
  induction m with
  | zero => intro a _ hr _ _; have := size_pos a; omega
  | succ m ih =>
  intro a b hr hm hbs
  have hkl := kids_len a
  have hkl2 := kids_len b
  have hsl := syms_len a
  have hsl2 := syms_len b
  rw [rx_eq a, rx_eq b]
  refine callF_of_code fn50 (Nat.le_of_ble_eq_true rfl) fun w0 M0 hM0 => ?_
  refine code_seq ?_
  refine code_ops _ rfl ?_
  refine ol_pure rfl rfl rfl (pure_box rfl rfl rfl hM0) ?_
  refine ol_pure rfl rfl rfl (pure_box rfl rfl rfl hM0) ?_
  refine ol_pure rfl rfl rfl (pure_assign rfl rfl) ?_
  refine ol_nil ?_
  refine spk 90 [(2,_),(3,_)] [] rfl rfl rfl ?_
  refine code_seq ?_
  refine code_ops _ rfl ?_
  refine ol_pure rfl rfl rfl (pure_field rfl fd25_0 rfl) ?_
  refine ol_pure rfl rfl rfl (pure_load rfl ag3 rfl rfl) ?_
  refine ol_pure rfl rfl rfl (pure_field rfl fd25_0 rfl) ?_
  refine ol_pure rfl rfl rfl (pure_load rfl ag3 rfl rfl) ?_
  refine ol_pure rfl rfl rfl (pure_call rfl rfl rfl (orderI_call) hM0) ?_
  refine ol_pure rfl rfl rfl (pure_assign rfl rfl) ?_
  refine ol_nil ?_
  refine spk 90 [(2,_),(3,_),(5,_)] [] rfl rfl rfl ?_
  refine code_seq ?_
  refine code_seq ?_
  refine code_ops _ rfl ?_
  refine ol_pure rfl rfl rfl (pure_assign rfl rfl) ?_
  refine ol_nil ?_
  refine spk 90 [(2,_),(3,_),(5,_),(6,_)] [] rfl rfl rfl ?_
  refine code_block ?_
  refine code_loopM (fun zm zs => ∃ (i : Nat) (c : Int), zm = a.syms.length - i ∧ (i ≤ a.syms.length) ∧ (i ≤ b.syms.length) ∧ (thn (orderI a.kind b.kind) (orderL a.syms b.syms) = thn c (orderL (a.syms.drop i) (b.syms.drop i))) ∧ zs = ⟨90, [(2, .v .mx (rpc a)), (3, .v .mx (rpc b)), (5, .v .pl (int c)), (6, .v .pl (int i))], []⟩) (loop_init (n := 90) (l := [(2, _), (3, _), (5, _), (6, _)]) (o' := []) rfl ⟨rfl, rfl, rfl, rfl, trivial⟩ trivial ?_) ?_
  ·exact ⟨_, 0, _, rfl, Nat.zero_le _, Nat.zero_le _, rfl, rfl⟩
  ·rintro zm zs ⟨i, c, rfl, hL1_0, hL1_1, hL1_2, rfl⟩
   refine code_seq ?_
   refine code_seq ?_
   refine code_ops _ rfl ?_
   refine ol_pure rfl rfl rfl (pure_move rfl rfl) ?_
   refine ol_pure rfl rfl rfl (pure_field rfl fd25_1 rfl) ?_
   refine ol_pure rfl rfl rfl (pure_load rfl ag22 rfl rfl) ?_
   refine ol_pure rfl rfl rfl (pure_lenm rfl Tryz.underlying22 rfl) ?_
   refine ol_pure rfl rfl rfl (pure_lss rfl rfl rfl) ?_
   refine ol_pure rfl rfl rfl (pure_move rfl rfl) ?_
   refine ol_guard rfl (fun h1 => ?_) (fun h1 => ?_)
   ·have h1' := h1; try simp only [dq] at h1'
    refine ol_pure_g rfl rfl h1 rfl rfl (pure_move rfl rfl) ?_
    refine opk 90 [(2,_),(3,_),(5,_),(6,_),(18,_),(19,_)] [] rfl rfl rfl ?_
    refine ol_pure_g rfl rfl h1 rfl rfl (pure_field rfl fd25_1 rfl) ?_
    refine ol_pure_g rfl rfl h1 rfl rfl (pure_load rfl ag22 rfl rfl) ?_
    refine ol_pure_g rfl rfl h1 rfl rfl (pure_lenm rfl Tryz.underlying22 rfl) ?_
    refine ol_pure_g rfl rfl h1 rfl rfl (pure_lss rfl rfl rfl) ?_
    refine ol_pure rfl rfl rfl (pure_pick_t rfl rfl h1 rfl) ?_
    refine ol_pure rfl rfl rfl (pure_move rfl rfl) ?_
    refine ol_guard rfl (fun h2 => ?_) (fun h2 => ?_)
    ·have h2' := h2; try simp only [dq] at h2'
     refine ol_pure_g rfl rfl h2 rfl rfl (pure_move rfl rfl) ?_
     refine ol_pure_g rfl rfl h2 rfl rfl (pure_eql rfl rfl rfl) ?_
     refine ol_pure rfl rfl rfl (pure_pick_t rfl rfl h2 rfl) ?_
     refine ol_nil ?_
     refine spk 90 [(2,_),(3,_),(5,_),(6,_),(28,_)] [] rfl rfl rfl ?_
     refine code_cond rfl (fun h3 => ?_) (fun h3 => ?_)
     ·try simp only [dq] at h3
      refine code_skip ?_
      refine spk 90 [(2,_),(3,_),(6,_)] [] rfl rfl rfl ?_
      refine code_seq ?_
      refine code_block ?_
      refine code_draw mixed (by kernel_rfl) _ rfl ?_
      refine dl_pure rfl rfl rfl (pure_field rfl fd25_1 rfl) ?_
      refine dl_pure rfl rfl rfl (pure_load rfl ag22 rfl rfl) ?_
      refine dl_pure rfl rfl rfl (pure_move rfl rfl) ?_
      first | refine dl_pure rfl rfl rfl (pure_indexn rfl Tryz.underlying22 sz3 rfl rfl (by omega) (fun _ => rfl)) ?_ | refine dl_pure rfl rfl rfl (pure_indexm rfl Tryz.underlying22 sz3 rfl rfl (by omega) (fun _ => rfl)) ?_
      refine dl_pure rfl rfl rfl (pure_load rfl ag3 rfl rfl) ?_
      refine dl_pure rfl rfl rfl (pure_field rfl fd25_1 rfl) ?_
      refine dl_pure rfl rfl rfl (pure_load rfl ag22 rfl rfl) ?_
      refine dpk 90 [(2,_),(3,_),(6,_),(35,_),(37,_)] [] rfl rfl rfl ?_
      refine dl_pure rfl rfl rfl (pure_move rfl rfl) ?_
      first | refine dl_pure rfl rfl rfl (pure_indexn rfl Tryz.underlying22 sz3 rfl rfl (by omega) (fun _ => rfl)) ?_ | refine dl_pure rfl rfl rfl (pure_indexm rfl Tryz.underlying22 sz3 rfl rfl (by omega) (fun _ => rfl)) ?_
      refine dl_pure rfl rfl rfl (pure_load rfl ag3 rfl rfl) ?_
      refine dl_pure rfl rfl rfl (pure_call rfl rfl rfl (orderI_call) hM0) ?_
      refine dl_pure rfl rfl rfl (pure_assign rfl rfl) ?_
      refine dl_nil ?_
      refine blockQ_normal ?_
      refine spk 90 [(2,_),(3,_),(5,_),(6,_)] [] rfl rfl rfl ?_
      refine code_ops _ rfl ?_
      refine ol_pure rfl rfl rfl (pure_move rfl rfl) ?_
      refine ol_pure rfl rfl rfl (pure_addi rfl rfl rfl (by omega)) ?_
      refine ol_pure rfl rfl rfl (pure_assign rfl rfl) ?_
      refine ol_nil ?_
      refine loop_next (n := 90) (l := [(2, _), (3, _), (5, _), (6, _)]) (o' := []) rfl ⟨rfl, rfl, rfl, rfl, trivial⟩ trivial ?_
      exact ⟨_, ⟨i + 1, _, rfl, by omega, by omega, thn_ordS hL1_2 (by omega) (by omega) (by omega), rfl⟩, by omega⟩
     ·try simp only [dq] at h3
      refine code_exit ?_
      refine seqQ_exit ?_
      refine loopM_exit ?_
      refine blockQ_same ?_
      refine spk 90 [(2,_),(3,_),(5,_)] [] rfl rfl rfl ?_
      refine code_cut (fun zs => ∃ z : Int, (z = thn (orderI a.kind b.kind) (orderL a.syms b.syms)) ∧ zs = ⟨90, [(2, .v .mx (rpc a)), (3, .v .mx (rpc b)), (5, .v .pl (int z))], []⟩) ?_ ?_
      ·skip
       refine code_seq ?_
       refine code_ops _ rfl ?_
       refine ol_pure rfl rfl rfl (pure_move rfl rfl) ?_
       refine ol_pure rfl rfl rfl (pure_eql rfl rfl rfl) ?_
       refine ol_nil ?_
       refine spk 90 [(2,_),(3,_),(5,_),(43,_)] [] rfl rfl rfl ?_
       refine code_cond rfl (fun h4 => ?_) (fun h4 => ?_)
       ·try simp only [dq] at h4
        refine code_ops _ rfl ?_
        refine ol_pure rfl rfl rfl (pure_field rfl fd25_1 rfl) ?_
        refine ol_pure rfl rfl rfl (pure_load rfl ag22 rfl rfl) ?_
        refine ol_pure rfl rfl rfl (pure_lenm rfl Tryz.underlying22 rfl) ?_
        refine ol_pure rfl rfl rfl (pure_field rfl fd25_1 rfl) ?_
        refine ol_pure rfl rfl rfl (pure_load rfl ag22 rfl rfl) ?_
        refine ol_pure rfl rfl rfl (pure_lenm rfl Tryz.underlying22 rfl) ?_
        refine ol_pure rfl rfl rfl (pure_call rfl rfl rfl (orderI_call) hM0) ?_
        refine ol_pure rfl rfl rfl (pure_assign rfl rfl) ?_
        refine ol_nil ?_
        refine cut_next (n := 90) (l := [(2, _), (3, _), (5, _)]) (o' := []) rfl ⟨rfl, rfl, rfl, trivial⟩ trivial ?_
        first | (exfalso; omega) | exact ⟨_, thn_end hL1_2 (by omega), rfl⟩ | exact ⟨_, thn_ord hL1_2 (by omega) hL1_0 hL1_1 (by omega), rfl⟩
       ·try simp only [dq] at h4
        refine code_skip ?_
        refine cut_next (n := 90) (l := [(2, _), (3, _), (5, _)]) (o' := []) rfl ⟨rfl, rfl, rfl, trivial⟩ trivial ?_
        first | (exfalso; omega) | exact ⟨_, thn_end hL1_2 (by omega), rfl⟩ | exact ⟨_, thn_ord hL1_2 (by omega) hL1_0 hL1_1 (by omega), rfl⟩
      ·rintro zs ⟨z, hC8_0, rfl⟩
       refine code_seq ?_
       refine code_seq ?_
       refine code_ops _ rfl ?_
       refine ol_pure rfl rfl rfl (pure_assign rfl rfl) ?_
       refine ol_nil ?_
       refine spk 90 [(2,_),(3,_),(5,_),(7,_)] [] rfl rfl rfl ?_
       refine code_block ?_
       refine code_loopM (fun zm zs => ∃ (i : Nat) (c : Int), zm = a.kids.length - i ∧ (i ≤ a.kids.length) ∧ (i ≤ b.kids.length) ∧ (cmpR a b = thn c (cmpRs (a.kids.drop i) (b.kids.drop i))) ∧ zs = ⟨90, [(2, .v .mx (rpc a)), (3, .v .mx (rpc b)), (5, .v .pl (int c)), (7, .v .pl (int i))], []⟩) (loop_init (n := 90) (l := [(2, _), (3, _), (5, _), (7, _)]) (o' := []) rfl ⟨rfl, rfl, rfl, rfl, trivial⟩ trivial ?_) ?_
       ·exact ⟨_, 0, _, rfl, Nat.zero_le _, Nat.zero_le _, by rw [hC8_0]; exact cmpR_eq a b, rfl⟩
       ·rintro zm zs ⟨i, c, rfl, hL2_0, hL2_1, hL2_2, rfl⟩
        refine code_seq ?_
        refine code_seq ?_
        refine code_ops _ rfl ?_
        refine ol_pure rfl rfl rfl (pure_move rfl rfl) ?_
        refine ol_pure rfl rfl rfl (pure_field rfl fd25_2 rfl) ?_
        refine ol_pure rfl rfl rfl (pure_load rfl ag23 rfl rfl) ?_
        refine ol_pure rfl rfl rfl (pure_lenm rfl Tryz.underlying23 rfl) ?_
        refine ol_pure rfl rfl rfl (pure_lss rfl rfl rfl) ?_
        refine ol_pure rfl rfl rfl (pure_move rfl rfl) ?_
        refine ol_guard rfl (fun h5 => ?_) (fun h5 => ?_)
        ·have h5' := h5; try simp only [dq] at h5'
         refine ol_pure_g rfl rfl h5 rfl rfl (pure_move rfl rfl) ?_
         refine opk 90 [(2,_),(3,_),(5,_),(7,_),(56,_),(57,_)] [] rfl rfl rfl ?_
         refine ol_pure_g rfl rfl h5 rfl rfl (pure_field rfl fd25_2 rfl) ?_
         refine ol_pure_g rfl rfl h5 rfl rfl (pure_load rfl ag23 rfl rfl) ?_
         refine ol_pure_g rfl rfl h5 rfl rfl (pure_lenm rfl Tryz.underlying23 rfl) ?_
         refine ol_pure_g rfl rfl h5 rfl rfl (pure_lss rfl rfl rfl) ?_
         refine ol_pure rfl rfl rfl (pure_pick_t rfl rfl h5 rfl) ?_
         refine ol_pure rfl rfl rfl (pure_move rfl rfl) ?_
         refine ol_guard rfl (fun h6 => ?_) (fun h6 => ?_)
         ·have h6' := h6; try simp only [dq] at h6'
          refine ol_pure_g rfl rfl h6 rfl rfl (pure_move rfl rfl) ?_
          refine ol_pure_g rfl rfl h6 rfl rfl (pure_eql rfl rfl rfl) ?_
          refine ol_pure rfl rfl rfl (pure_pick_t rfl rfl h6 rfl) ?_
          refine ol_nil ?_
          refine spk 90 [(2,_),(3,_),(5,_),(7,_),(66,_)] [] rfl rfl rfl ?_
          refine code_cond rfl (fun h7 => ?_) (fun h7 => ?_)
          ·try simp only [dq] at h7
           refine code_skip ?_
           refine spk 90 [(2,_),(3,_),(7,_)] [] rfl rfl rfl ?_
           refine code_seq ?_
           refine code_block ?_
           refine code_draw mixed (by kernel_rfl) _ rfl ?_
           refine dl_pure rfl rfl rfl (pure_field rfl fd25_2 rfl) ?_
           refine dl_pure rfl rfl rfl (pure_load rfl ag23 rfl rfl) ?_
           refine dl_pure rfl rfl rfl (pure_move rfl rfl) ?_
           first | refine dl_pure rfl rfl rfl (pure_indexn rfl Tryz.underlying23 sz25 rfl rfl (by omega) (fun _ => rfl)) ?_ | refine dl_pure rfl rfl rfl (pure_indexm rfl Tryz.underlying23 sz25 rfl rfl (by omega) (fun _ => rfl)) ?_
           refine dl_pure rfl rfl rfl (pure_load_agg rfl ag25 sz25 rfl (Nat.le_of_ble_eq_true rfl)) ?_
           refine dl_pure rfl rfl rfl (pure_field rfl fd25_2 rfl) ?_
           refine dl_pure rfl rfl rfl (pure_load rfl ag23 rfl rfl) ?_
           refine dpk 90 [(2,_),(3,_),(7,_),(73,_),(75,_)] [] rfl rfl rfl ?_
           refine dl_pure rfl rfl rfl (pure_move rfl rfl) ?_
           first | refine dl_pure rfl rfl rfl (pure_indexn rfl Tryz.underlying23 sz25 rfl rfl (by omega) (fun _ => rfl)) ?_ | refine dl_pure rfl rfl rfl (pure_indexm rfl Tryz.underlying23 sz25 rfl rfl (by omega) (fun _ => rfl)) ?_
           refine dl_pure rfl rfl rfl (pure_load_agg rfl ag25 sz25 rfl (Nat.le_of_ble_eq_true rfl)) ?_
           refine dl_pure rfl rfl rfl (pure_call rfl rfl rfl (ih _ _ (Nat.le_of_lt_succ (Nat.lt_of_lt_of_le (kid_lt (by omega)) hr)) (by omega) (Nat.le_trans (Nat.le_of_lt (kid_lt (by omega))) hbs)) hM0) ?_
           refine dl_pure rfl rfl rfl (pure_assign rfl rfl) ?_
           refine dl_nil ?_
           refine blockQ_normal ?_
           refine spk 90 [(2,_),(3,_),(5,_),(7,_)] [] rfl rfl rfl ?_
           refine code_ops _ rfl ?_
           refine ol_pure rfl rfl rfl (pure_move rfl rfl) ?_
           refine ol_pure rfl rfl rfl (pure_addi rfl rfl rfl (by omega)) ?_
           refine ol_pure rfl rfl rfl (pure_assign rfl rfl) ?_
           refine ol_nil ?_
           refine loop_next (n := 90) (l := [(2, _), (3, _), (5, _), (7, _)]) (o' := []) rfl ⟨rfl, rfl, rfl, rfl, trivial⟩ trivial ?_
           exact ⟨_, ⟨i + 1, _, rfl, by omega, by omega, thn_cmpS hL2_2 (by omega) (by omega) (by omega), rfl⟩, by omega⟩
          ·try simp only [dq] at h7
           refine code_exit ?_
           refine seqQ_exit ?_
           refine loopM_exit ?_
           refine blockQ_same ?_
           refine spk 90 [(2,_),(3,_),(5,_)] [] rfl rfl rfl ?_
           refine code_seq ?_
           refine code_seq ?_
           refine code_ops _ rfl ?_
           refine ol_pure rfl rfl rfl (pure_move rfl rfl) ?_
           refine ol_pure rfl rfl rfl (pure_eql rfl rfl rfl) ?_
           refine ol_nil ?_
           refine spk 90 [(2,_),(3,_),(5,_),(81,_)] [] rfl rfl rfl ?_
           refine code_cond rfl (fun h8 => ?_) (fun h8 => ?_)
           ·try simp only [dq] at h8
            refine code_ops _ rfl ?_
            refine ol_pure rfl rfl rfl (pure_field rfl fd25_2 rfl) ?_
            refine ol_pure rfl rfl rfl (pure_load rfl ag23 rfl rfl) ?_
            refine ol_pure rfl rfl rfl (pure_lenm rfl Tryz.underlying23 rfl) ?_
            refine ol_pure rfl rfl rfl (pure_field rfl fd25_2 rfl) ?_
            refine ol_pure rfl rfl rfl (pure_load rfl ag23 rfl rfl) ?_
            refine ol_pure rfl rfl rfl (pure_lenm rfl Tryz.underlying23 rfl) ?_
            refine ol_pure rfl rfl rfl (pure_call rfl rfl rfl (orderI_call) hM0) ?_
            refine ol_pure rfl rfl rfl (pure_assign rfl rfl) ?_
            refine ol_nil ?_
            refine spk 90 [(5,_)] [] rfl rfl rfl ?_
            refine code_seq ?_
            refine code_ops _ rfl ?_
            refine ol_pure rfl rfl rfl (pure_move rfl rfl) ?_
            refine ol_pure rfl rfl rfl (pure_assign rfl rfl) ?_
            refine ol_nil ?_
            refine spk 90 [(4,_)] [] rfl rfl rfl ?_
            refine code_ret ?_
            refine end_ret rfl ?_
            first | (exfalso; omega) | exact congrArg (fun z => RV.p (int z)) (thn_end hL2_2 (by omega)) | exact congrArg (fun z => RV.p (int z)) (thn_cmp hL2_2 (by omega) hL2_0 hL2_1 (by omega))
           ·try simp only [dq] at h8
            refine code_skip ?_
            refine spk 90 [(5,_)] [] rfl rfl rfl ?_
            refine code_seq ?_
            refine code_ops _ rfl ?_
            refine ol_pure rfl rfl rfl (pure_move rfl rfl) ?_
            refine ol_pure rfl rfl rfl (pure_assign rfl rfl) ?_
            refine ol_nil ?_
            refine spk 90 [(4,_)] [] rfl rfl rfl ?_
            refine code_ret ?_
            refine end_ret rfl ?_
            first | (exfalso; omega) | exact congrArg (fun z => RV.p (int z)) (thn_end hL2_2 (by omega)) | exact congrArg (fun z => RV.p (int z)) (thn_cmp hL2_2 (by omega) hL2_0 hL2_1 (by omega))
         ·have h6' := h6; try simp only [dq] at h6'
          refine ol_skip_g rfl rfl h6 rfl rfl ?_
          refine ol_skip_g rfl rfl h6 rfl rfl ?_
          refine ol_pure rfl rfl rfl (pure_pick_f rfl rfl h6 rfl) ?_
          refine ol_nil ?_
          refine spk 90 [(2,_),(3,_),(5,_),(7,_),(66,_)] [] rfl rfl rfl ?_
          refine code_cond_f rfl ?_
          refine code_exit ?_
          refine seqQ_exit ?_
          refine loopM_exit ?_
          refine blockQ_same ?_
          refine spk 90 [(2,_),(3,_),(5,_)] [] rfl rfl rfl ?_
          refine code_seq ?_
          refine code_seq ?_
          refine code_ops _ rfl ?_
          refine ol_pure rfl rfl rfl (pure_move rfl rfl) ?_
          refine ol_pure rfl rfl rfl (pure_eql rfl rfl rfl) ?_
          refine ol_nil ?_
          refine spk 90 [(2,_),(3,_),(5,_),(81,_)] [] rfl rfl rfl ?_
          refine code_cond rfl (fun h9 => ?_) (fun h9 => ?_)
          ·try simp only [dq] at h9
           refine code_ops _ rfl ?_
           refine ol_pure rfl rfl rfl (pure_field rfl fd25_2 rfl) ?_
           refine ol_pure rfl rfl rfl (pure_load rfl ag23 rfl rfl) ?_
           refine ol_pure rfl rfl rfl (pure_lenm rfl Tryz.underlying23 rfl) ?_
           refine ol_pure rfl rfl rfl (pure_field rfl fd25_2 rfl) ?_
           refine ol_pure rfl rfl rfl (pure_load rfl ag23 rfl rfl) ?_
           refine ol_pure rfl rfl rfl (pure_lenm rfl Tryz.underlying23 rfl) ?_
           refine ol_pure rfl rfl rfl (pure_call rfl rfl rfl (orderI_call) hM0) ?_
           refine ol_pure rfl rfl rfl (pure_assign rfl rfl) ?_
           refine ol_nil ?_
           refine spk 90 [(5,_)] [] rfl rfl rfl ?_
           refine code_seq ?_
           refine code_ops _ rfl ?_
           refine ol_pure rfl rfl rfl (pure_move rfl rfl) ?_
           refine ol_pure rfl rfl rfl (pure_assign rfl rfl) ?_
           refine ol_nil ?_
           refine spk 90 [(4,_)] [] rfl rfl rfl ?_
           refine code_ret ?_
           refine end_ret rfl ?_
           first | (exfalso; omega) | exact congrArg (fun z => RV.p (int z)) (thn_end hL2_2 (by omega)) | exact congrArg (fun z => RV.p (int z)) (thn_cmp hL2_2 (by omega) hL2_0 hL2_1 (by omega))
          ·try simp only [dq] at h9
           refine code_skip ?_
           refine spk 90 [(5,_)] [] rfl rfl rfl ?_
           refine code_seq ?_
           refine code_ops _ rfl ?_
           refine ol_pure rfl rfl rfl (pure_move rfl rfl) ?_
           refine ol_pure rfl rfl rfl (pure_assign rfl rfl) ?_
           refine ol_nil ?_
           refine spk 90 [(4,_)] [] rfl rfl rfl ?_
           refine code_ret ?_
           refine end_ret rfl ?_
           first | (exfalso; omega) | exact congrArg (fun z => RV.p (int z)) (thn_end hL2_2 (by omega)) | exact congrArg (fun z => RV.p (int z)) (thn_cmp hL2_2 (by omega) hL2_0 hL2_1 (by omega))
        ·have h5' := h5; try simp only [dq] at h5'
         refine ol_skip_g rfl rfl h5 rfl rfl ?_
         refine opk 90 [(2,_),(3,_),(5,_),(7,_),(56,_),(57,_)] [] rfl rfl rfl ?_
         refine ol_skip_g rfl rfl h5 rfl rfl ?_
         refine ol_skip_g rfl rfl h5 rfl rfl ?_
         refine ol_skip_g rfl rfl h5 rfl rfl ?_
         refine ol_skip_g rfl rfl h5 rfl rfl ?_
         refine ol_pure rfl rfl rfl (pure_pick_f rfl rfl h5 rfl) ?_
         refine ol_pure rfl rfl rfl (pure_move rfl rfl) ?_
         refine ol_skip_g rfl rfl rfl rfl rfl ?_
         refine ol_skip_g rfl rfl rfl rfl rfl ?_
         refine ol_pure rfl rfl rfl (pure_pick_f rfl rfl rfl rfl) ?_
         refine ol_nil ?_
         refine spk 90 [(2,_),(3,_),(5,_),(7,_),(66,_)] [] rfl rfl rfl ?_
         refine code_cond_f rfl ?_
         refine code_exit ?_
         refine seqQ_exit ?_
         refine loopM_exit ?_
         refine blockQ_same ?_
         refine spk 90 [(2,_),(3,_),(5,_)] [] rfl rfl rfl ?_
         refine code_seq ?_
         refine code_seq ?_
         refine code_ops _ rfl ?_
         refine ol_pure rfl rfl rfl (pure_move rfl rfl) ?_
         refine ol_pure rfl rfl rfl (pure_eql rfl rfl rfl) ?_
         refine ol_nil ?_
         refine spk 90 [(2,_),(3,_),(5,_),(81,_)] [] rfl rfl rfl ?_
         refine code_cond rfl (fun h10 => ?_) (fun h10 => ?_)
         ·try simp only [dq] at h10
          refine code_ops _ rfl ?_
          refine ol_pure rfl rfl rfl (pure_field rfl fd25_2 rfl) ?_
          refine ol_pure rfl rfl rfl (pure_load rfl ag23 rfl rfl) ?_
          refine ol_pure rfl rfl rfl (pure_lenm rfl Tryz.underlying23 rfl) ?_
          refine ol_pure rfl rfl rfl (pure_field rfl fd25_2 rfl) ?_
          refine ol_pure rfl rfl rfl (pure_load rfl ag23 rfl rfl) ?_
          refine ol_pure rfl rfl rfl (pure_lenm rfl Tryz.underlying23 rfl) ?_
          refine ol_pure rfl rfl rfl (pure_call rfl rfl rfl (orderI_call) hM0) ?_
          refine ol_pure rfl rfl rfl (pure_assign rfl rfl) ?_
          refine ol_nil ?_
          refine spk 90 [(5,_)] [] rfl rfl rfl ?_
          refine code_seq ?_
          refine code_ops _ rfl ?_
          refine ol_pure rfl rfl rfl (pure_move rfl rfl) ?_
          refine ol_pure rfl rfl rfl (pure_assign rfl rfl) ?_
          refine ol_nil ?_
          refine spk 90 [(4,_)] [] rfl rfl rfl ?_
          refine code_ret ?_
          refine end_ret rfl ?_
          first | (exfalso; omega) | exact congrArg (fun z => RV.p (int z)) (thn_end hL2_2 (by omega)) | exact congrArg (fun z => RV.p (int z)) (thn_cmp hL2_2 (by omega) hL2_0 hL2_1 (by omega))
         ·try simp only [dq] at h10
          refine code_skip ?_
          refine spk 90 [(5,_)] [] rfl rfl rfl ?_
          refine code_seq ?_
          refine code_ops _ rfl ?_
          refine ol_pure rfl rfl rfl (pure_move rfl rfl) ?_
          refine ol_pure rfl rfl rfl (pure_assign rfl rfl) ?_
          refine ol_nil ?_
          refine spk 90 [(4,_)] [] rfl rfl rfl ?_
          refine code_ret ?_
          refine end_ret rfl ?_
          first | (exfalso; omega) | exact congrArg (fun z => RV.p (int z)) (thn_end hL2_2 (by omega)) | exact congrArg (fun z => RV.p (int z)) (thn_cmp hL2_2 (by omega) hL2_0 hL2_1 (by omega))
    ·have h2' := h2; try simp only [dq] at h2'
     refine ol_skip_g rfl rfl h2 rfl rfl ?_
     refine ol_skip_g rfl rfl h2 rfl rfl ?_
     refine ol_pure rfl rfl rfl (pure_pick_f rfl rfl h2 rfl) ?_
     refine ol_nil ?_
     refine spk 90 [(2,_),(3,_),(5,_),(6,_),(28,_)] [] rfl rfl rfl ?_
     refine code_cond_f rfl ?_
     refine code_exit ?_
     refine seqQ_exit ?_
     refine loopM_exit ?_
     refine blockQ_same ?_
     refine spk 90 [(2,_),(3,_),(5,_)] [] rfl rfl rfl ?_
     refine code_cut (fun zs => ∃ z : Int, (z = thn (orderI a.kind b.kind) (orderL a.syms b.syms)) ∧ zs = ⟨90, [(2, .v .mx (rpc a)), (3, .v .mx (rpc b)), (5, .v .pl (int z))], []⟩) ?_ ?_
     ·skip
      refine code_seq ?_
      refine code_ops _ rfl ?_
      refine ol_pure rfl rfl rfl (pure_move rfl rfl) ?_
      refine ol_pure rfl rfl rfl (pure_eql rfl rfl rfl) ?_
      refine ol_nil ?_
      refine spk 90 [(2,_),(3,_),(5,_),(43,_)] [] rfl rfl rfl ?_
      refine code_cond rfl (fun h11 => ?_) (fun h11 => ?_)
      ·try simp only [dq] at h11
       refine code_ops _ rfl ?_
       refine ol_pure rfl rfl rfl (pure_field rfl fd25_1 rfl) ?_
       refine ol_pure rfl rfl rfl (pure_load rfl ag22 rfl rfl) ?_
       refine ol_pure rfl rfl rfl (pure_lenm rfl Tryz.underlying22 rfl) ?_
       refine ol_pure rfl rfl rfl (pure_field rfl fd25_1 rfl) ?_
       refine ol_pure rfl rfl rfl (pure_load rfl ag22 rfl rfl) ?_
       refine ol_pure rfl rfl rfl (pure_lenm rfl Tryz.underlying22 rfl) ?_
       refine ol_pure rfl rfl rfl (pure_call rfl rfl rfl (orderI_call) hM0) ?_
       refine ol_pure rfl rfl rfl (pure_assign rfl rfl) ?_
       refine ol_nil ?_
       refine cut_next (n := 90) (l := [(2, _), (3, _), (5, _)]) (o' := []) rfl ⟨rfl, rfl, rfl, trivial⟩ trivial ?_
       first | (exfalso; omega) | exact ⟨_, thn_end hL1_2 (by omega), rfl⟩ | exact ⟨_, thn_ord hL1_2 (by omega) hL1_0 hL1_1 (by omega), rfl⟩
      ·try simp only [dq] at h11
       refine code_skip ?_
       refine cut_next (n := 90) (l := [(2, _), (3, _), (5, _)]) (o' := []) rfl ⟨rfl, rfl, rfl, trivial⟩ trivial ?_
       first | (exfalso; omega) | exact ⟨_, thn_end hL1_2 (by omega), rfl⟩ | exact ⟨_, thn_ord hL1_2 (by omega) hL1_0 hL1_1 (by omega), rfl⟩
     ·rintro zs ⟨z, hC8_0, rfl⟩
      refine code_seq ?_
      refine code_seq ?_
      refine code_ops _ rfl ?_
      refine ol_pure rfl rfl rfl (pure_assign rfl rfl) ?_
      refine ol_nil ?_
      refine spk 90 [(2,_),(3,_),(5,_),(7,_)] [] rfl rfl rfl ?_
      refine code_block ?_
      refine code_loopM (fun zm zs => ∃ (i : Nat) (c : Int), zm = a.kids.length - i ∧ (i ≤ a.kids.length) ∧ (i ≤ b.kids.length) ∧ (cmpR a b = thn c (cmpRs (a.kids.drop i) (b.kids.drop i))) ∧ zs = ⟨90, [(2, .v .mx (rpc a)), (3, .v .mx (rpc b)), (5, .v .pl (int c)), (7, .v .pl (int i))], []⟩) (loop_init (n := 90) (l := [(2, _), (3, _), (5, _), (7, _)]) (o' := []) rfl ⟨rfl, rfl, rfl, rfl, trivial⟩ trivial ?_) ?_
      ·exact ⟨_, 0, _, rfl, Nat.zero_le _, Nat.zero_le _, by rw [hC8_0]; exact cmpR_eq a b, rfl⟩
      ·rintro zm zs ⟨i, c, rfl, hL2_0, hL2_1, hL2_2, rfl⟩
       refine code_seq ?_
       refine code_seq ?_
       refine code_ops _ rfl ?_
       refine ol_pure rfl rfl rfl (pure_move rfl rfl) ?_
       refine ol_pure rfl rfl rfl (pure_field rfl fd25_2 rfl) ?_
       refine ol_pure rfl rfl rfl (pure_load rfl ag23 rfl rfl) ?_
       refine ol_pure rfl rfl rfl (pure_lenm rfl Tryz.underlying23 rfl) ?_
       refine ol_pure rfl rfl rfl (pure_lss rfl rfl rfl) ?_
       refine ol_pure rfl rfl rfl (pure_move rfl rfl) ?_
       refine ol_guard rfl (fun h12 => ?_) (fun h12 => ?_)
       ·have h12' := h12; try simp only [dq] at h12'
        refine ol_pure_g rfl rfl h12 rfl rfl (pure_move rfl rfl) ?_
        refine opk 90 [(2,_),(3,_),(5,_),(7,_),(56,_),(57,_)] [] rfl rfl rfl ?_
        refine ol_pure_g rfl rfl h12 rfl rfl (pure_field rfl fd25_2 rfl) ?_
        refine ol_pure_g rfl rfl h12 rfl rfl (pure_load rfl ag23 rfl rfl) ?_
        refine ol_pure_g rfl rfl h12 rfl rfl (pure_lenm rfl Tryz.underlying23 rfl) ?_
        refine ol_pure_g rfl rfl h12 rfl rfl (pure_lss rfl rfl rfl) ?_
        refine ol_pure rfl rfl rfl (pure_pick_t rfl rfl h12 rfl) ?_
        refine ol_pure rfl rfl rfl (pure_move rfl rfl) ?_
        refine ol_guard rfl (fun h13 => ?_) (fun h13 => ?_)
        ·have h13' := h13; try simp only [dq] at h13'
         refine ol_pure_g rfl rfl h13 rfl rfl (pure_move rfl rfl) ?_
         refine ol_pure_g rfl rfl h13 rfl rfl (pure_eql rfl rfl rfl) ?_
         refine ol_pure rfl rfl rfl (pure_pick_t rfl rfl h13 rfl) ?_
         refine ol_nil ?_
         refine spk 90 [(2,_),(3,_),(5,_),(7,_),(66,_)] [] rfl rfl rfl ?_
         refine code_cond rfl (fun h14 => ?_) (fun h14 => ?_)
         ·try simp only [dq] at h14
          refine code_skip ?_
          refine spk 90 [(2,_),(3,_),(7,_)] [] rfl rfl rfl ?_
          refine code_seq ?_
          refine code_block ?_
          refine code_draw mixed (by kernel_rfl) _ rfl ?_
          refine dl_pure rfl rfl rfl (pure_field rfl fd25_2 rfl) ?_
          refine dl_pure rfl rfl rfl (pure_load rfl ag23 rfl rfl) ?_
          refine dl_pure rfl rfl rfl (pure_move rfl rfl) ?_
          first | refine dl_pure rfl rfl rfl (pure_indexn rfl Tryz.underlying23 sz25 rfl rfl (by omega) (fun _ => rfl)) ?_ | refine dl_pure rfl rfl rfl (pure_indexm rfl Tryz.underlying23 sz25 rfl rfl (by omega) (fun _ => rfl)) ?_
          refine dl_pure rfl rfl rfl (pure_load_agg rfl ag25 sz25 rfl (Nat.le_of_ble_eq_true rfl)) ?_
          refine dl_pure rfl rfl rfl (pure_field rfl fd25_2 rfl) ?_
          refine dl_pure rfl rfl rfl (pure_load rfl ag23 rfl rfl) ?_
          refine dpk 90 [(2,_),(3,_),(7,_),(73,_),(75,_)] [] rfl rfl rfl ?_
          refine dl_pure rfl rfl rfl (pure_move rfl rfl) ?_
          first | refine dl_pure rfl rfl rfl (pure_indexn rfl Tryz.underlying23 sz25 rfl rfl (by omega) (fun _ => rfl)) ?_ | refine dl_pure rfl rfl rfl (pure_indexm rfl Tryz.underlying23 sz25 rfl rfl (by omega) (fun _ => rfl)) ?_
          refine dl_pure rfl rfl rfl (pure_load_agg rfl ag25 sz25 rfl (Nat.le_of_ble_eq_true rfl)) ?_
          refine dl_pure rfl rfl rfl (pure_call rfl rfl rfl (ih _ _ (Nat.le_of_lt_succ (Nat.lt_of_lt_of_le (kid_lt (by omega)) hr)) (by omega) (Nat.le_trans (Nat.le_of_lt (kid_lt (by omega))) hbs)) hM0) ?_
          refine dl_pure rfl rfl rfl (pure_assign rfl rfl) ?_
          refine dl_nil ?_
          refine blockQ_normal ?_
          refine spk 90 [(2,_),(3,_),(5,_),(7,_)] [] rfl rfl rfl ?_
          refine code_ops _ rfl ?_
          refine ol_pure rfl rfl rfl (pure_move rfl rfl) ?_
          refine ol_pure rfl rfl rfl (pure_addi rfl rfl rfl (by omega)) ?_
          refine ol_pure rfl rfl rfl (pure_assign rfl rfl) ?_
          refine ol_nil ?_
          refine loop_next (n := 90) (l := [(2, _), (3, _), (5, _), (7, _)]) (o' := []) rfl ⟨rfl, rfl, rfl, rfl, trivial⟩ trivial ?_
          exact ⟨_, ⟨i + 1, _, rfl, by omega, by omega, thn_cmpS hL2_2 (by omega) (by omega) (by omega), rfl⟩, by omega⟩
         ·try simp only [dq] at h14
          refine code_exit ?_
          refine seqQ_exit ?_
          refine loopM_exit ?_
          refine blockQ_same ?_
          refine spk 90 [(2,_),(3,_),(5,_)] [] rfl rfl rfl ?_
          refine code_seq ?_
          refine code_seq ?_
          refine code_ops _ rfl ?_
          refine ol_pure rfl rfl rfl (pure_move rfl rfl) ?_
          refine ol_pure rfl rfl rfl (pure_eql rfl rfl rfl) ?_
          refine ol_nil ?_
          refine spk 90 [(2,_),(3,_),(5,_),(81,_)] [] rfl rfl rfl ?_
          refine code_cond rfl (fun h15 => ?_) (fun h15 => ?_)
          ·try simp only [dq] at h15
           refine code_ops _ rfl ?_
           refine ol_pure rfl rfl rfl (pure_field rfl fd25_2 rfl) ?_
           refine ol_pure rfl rfl rfl (pure_load rfl ag23 rfl rfl) ?_
           refine ol_pure rfl rfl rfl (pure_lenm rfl Tryz.underlying23 rfl) ?_
           refine ol_pure rfl rfl rfl (pure_field rfl fd25_2 rfl) ?_
           refine ol_pure rfl rfl rfl (pure_load rfl ag23 rfl rfl) ?_
           refine ol_pure rfl rfl rfl (pure_lenm rfl Tryz.underlying23 rfl) ?_
           refine ol_pure rfl rfl rfl (pure_call rfl rfl rfl (orderI_call) hM0) ?_
           refine ol_pure rfl rfl rfl (pure_assign rfl rfl) ?_
           refine ol_nil ?_
           refine spk 90 [(5,_)] [] rfl rfl rfl ?_
           refine code_seq ?_
           refine code_ops _ rfl ?_
           refine ol_pure rfl rfl rfl (pure_move rfl rfl) ?_
           refine ol_pure rfl rfl rfl (pure_assign rfl rfl) ?_
           refine ol_nil ?_
           refine spk 90 [(4,_)] [] rfl rfl rfl ?_
           refine code_ret ?_
           refine end_ret rfl ?_
           first | (exfalso; omega) | exact congrArg (fun z => RV.p (int z)) (thn_end hL2_2 (by omega)) | exact congrArg (fun z => RV.p (int z)) (thn_cmp hL2_2 (by omega) hL2_0 hL2_1 (by omega))
          ·try simp only [dq] at h15
           refine code_skip ?_
           refine spk 90 [(5,_)] [] rfl rfl rfl ?_
           refine code_seq ?_
           refine code_ops _ rfl ?_
           refine ol_pure rfl rfl rfl (pure_move rfl rfl) ?_
           refine ol_pure rfl rfl rfl (pure_assign rfl rfl) ?_
           refine ol_nil ?_
           refine spk 90 [(4,_)] [] rfl rfl rfl ?_
           refine code_ret ?_
           refine end_ret rfl ?_
           first | (exfalso; omega) | exact congrArg (fun z => RV.p (int z)) (thn_end hL2_2 (by omega)) | exact congrArg (fun z => RV.p (int z)) (thn_cmp hL2_2 (by omega) hL2_0 hL2_1 (by omega))
        ·have h13' := h13; try simp only [dq] at h13'
         refine ol_skip_g rfl rfl h13 rfl rfl ?_
         refine ol_skip_g rfl rfl h13 rfl rfl ?_
         refine ol_pure rfl rfl rfl (pure_pick_f rfl rfl h13 rfl) ?_
         refine ol_nil ?_
         refine spk 90 [(2,_),(3,_),(5,_),(7,_),(66,_)] [] rfl rfl rfl ?_
         refine code_cond_f rfl ?_
         refine code_exit ?_
         refine seqQ_exit ?_
         refine loopM_exit ?_
         refine blockQ_same ?_
         refine spk 90 [(2,_),(3,_),(5,_)] [] rfl rfl rfl ?_
         refine code_seq ?_
         refine code_seq ?_
         refine code_ops _ rfl ?_
         refine ol_pure rfl rfl rfl (pure_move rfl rfl) ?_
         refine ol_pure rfl rfl rfl (pure_eql rfl rfl rfl) ?_
         refine ol_nil ?_
         refine spk 90 [(2,_),(3,_),(5,_),(81,_)] [] rfl rfl rfl ?_
         refine code_cond rfl (fun h16 => ?_) (fun h16 => ?_)
         ·try simp only [dq] at h16
          refine code_ops _ rfl ?_
          refine ol_pure rfl rfl rfl (pure_field rfl fd25_2 rfl) ?_
          refine ol_pure rfl rfl rfl (pure_load rfl ag23 rfl rfl) ?_
          refine ol_pure rfl rfl rfl (pure_lenm rfl Tryz.underlying23 rfl) ?_
          refine ol_pure rfl rfl rfl (pure_field rfl fd25_2 rfl) ?_
          refine ol_pure rfl rfl rfl (pure_load rfl ag23 rfl rfl) ?_
          refine ol_pure rfl rfl rfl (pure_lenm rfl Tryz.underlying23 rfl) ?_
          refine ol_pure rfl rfl rfl (pure_call rfl rfl rfl (orderI_call) hM0) ?_
          refine ol_pure rfl rfl rfl (pure_assign rfl rfl) ?_
          refine ol_nil ?_
          refine spk 90 [(5,_)] [] rfl rfl rfl ?_
          refine code_seq ?_
          refine code_ops _ rfl ?_
          refine ol_pure rfl rfl rfl (pure_move rfl rfl) ?_
          refine ol_pure rfl rfl rfl (pure_assign rfl rfl) ?_
          refine ol_nil ?_
          refine spk 90 [(4,_)] [] rfl rfl rfl ?_
          refine code_ret ?_
          refine end_ret rfl ?_
          first | (exfalso; omega) | exact congrArg (fun z => RV.p (int z)) (thn_end hL2_2 (by omega)) | exact congrArg (fun z => RV.p (int z)) (thn_cmp hL2_2 (by omega) hL2_0 hL2_1 (by omega))
         ·try simp only [dq] at h16
          refine code_skip ?_
          refine spk 90 [(5,_)] [] rfl rfl rfl ?_
          refine code_seq ?_
          refine code_ops _ rfl ?_
          refine ol_pure rfl rfl rfl (pure_move rfl rfl) ?_
          refine ol_pure rfl rfl rfl (pure_assign rfl rfl) ?_
          refine ol_nil ?_
          refine spk 90 [(4,_)] [] rfl rfl rfl ?_
          refine code_ret ?_
          refine end_ret rfl ?_
          first | (exfalso; omega) | exact congrArg (fun z => RV.p (int z)) (thn_end hL2_2 (by omega)) | exact congrArg (fun z => RV.p (int z)) (thn_cmp hL2_2 (by omega) hL2_0 hL2_1 (by omega))
       ·have h12' := h12; try simp only [dq] at h12'
        refine ol_skip_g rfl rfl h12 rfl rfl ?_
        refine opk 90 [(2,_),(3,_),(5,_),(7,_),(56,_),(57,_)] [] rfl rfl rfl ?_
        refine ol_skip_g rfl rfl h12 rfl rfl ?_
        refine ol_skip_g rfl rfl h12 rfl rfl ?_
        refine ol_skip_g rfl rfl h12 rfl rfl ?_
        refine ol_skip_g rfl rfl h12 rfl rfl ?_
        refine ol_pure rfl rfl rfl (pure_pick_f rfl rfl h12 rfl) ?_
        refine ol_pure rfl rfl rfl (pure_move rfl rfl) ?_
        refine ol_skip_g rfl rfl rfl rfl rfl ?_
        refine ol_skip_g rfl rfl rfl rfl rfl ?_
        refine ol_pure rfl rfl rfl (pure_pick_f rfl rfl rfl rfl) ?_
        refine ol_nil ?_
        refine spk 90 [(2,_),(3,_),(5,_),(7,_),(66,_)] [] rfl rfl rfl ?_
        refine code_cond_f rfl ?_
        refine code_exit ?_
        refine seqQ_exit ?_
        refine loopM_exit ?_
        refine blockQ_same ?_
        refine spk 90 [(2,_),(3,_),(5,_)] [] rfl rfl rfl ?_
        refine code_seq ?_
        refine code_seq ?_
        refine code_ops _ rfl ?_
        refine ol_pure rfl rfl rfl (pure_move rfl rfl) ?_
        refine ol_pure rfl rfl rfl (pure_eql rfl rfl rfl) ?_
        refine ol_nil ?_
        refine spk 90 [(2,_),(3,_),(5,_),(81,_)] [] rfl rfl rfl ?_
        refine code_cond rfl (fun h17 => ?_) (fun h17 => ?_)
        ·try simp only [dq] at h17
         refine code_ops _ rfl ?_
         refine ol_pure rfl rfl rfl (pure_field rfl fd25_2 rfl) ?_
         refine ol_pure rfl rfl rfl (pure_load rfl ag23 rfl rfl) ?_
         refine ol_pure rfl rfl rfl (pure_lenm rfl Tryz.underlying23 rfl) ?_
         refine ol_pure rfl rfl rfl (pure_field rfl fd25_2 rfl) ?_
         refine ol_pure rfl rfl rfl (pure_load rfl ag23 rfl rfl) ?_
         refine ol_pure rfl rfl rfl (pure_lenm rfl Tryz.underlying23 rfl) ?_
         refine ol_pure rfl rfl rfl (pure_call rfl rfl rfl (orderI_call) hM0) ?_
         refine ol_pure rfl rfl rfl (pure_assign rfl rfl) ?_
         refine ol_nil ?_
         refine spk 90 [(5,_)] [] rfl rfl rfl ?_
         refine code_seq ?_
         refine code_ops _ rfl ?_
         refine ol_pure rfl rfl rfl (pure_move rfl rfl) ?_
         refine ol_pure rfl rfl rfl (pure_assign rfl rfl) ?_
         refine ol_nil ?_
         refine spk 90 [(4,_)] [] rfl rfl rfl ?_
         refine code_ret ?_
         refine end_ret rfl ?_
         first | (exfalso; omega) | exact congrArg (fun z => RV.p (int z)) (thn_end hL2_2 (by omega)) | exact congrArg (fun z => RV.p (int z)) (thn_cmp hL2_2 (by omega) hL2_0 hL2_1 (by omega))
        ·try simp only [dq] at h17
         refine code_skip ?_
         refine spk 90 [(5,_)] [] rfl rfl rfl ?_
         refine code_seq ?_
         refine code_ops _ rfl ?_
         refine ol_pure rfl rfl rfl (pure_move rfl rfl) ?_
         refine ol_pure rfl rfl rfl (pure_assign rfl rfl) ?_
         refine ol_nil ?_
         refine spk 90 [(4,_)] [] rfl rfl rfl ?_
         refine code_ret ?_
         refine end_ret rfl ?_
         first | (exfalso; omega) | exact congrArg (fun z => RV.p (int z)) (thn_end hL2_2 (by omega)) | exact congrArg (fun z => RV.p (int z)) (thn_cmp hL2_2 (by omega) hL2_0 hL2_1 (by omega))
   ·have h1' := h1; try simp only [dq] at h1'
    refine ol_skip_g rfl rfl h1 rfl rfl ?_
    refine opk 90 [(2,_),(3,_),(5,_),(6,_),(18,_),(19,_)] [] rfl rfl rfl ?_
    refine ol_skip_g rfl rfl h1 rfl rfl ?_
    refine ol_skip_g rfl rfl h1 rfl rfl ?_
    refine ol_skip_g rfl rfl h1 rfl rfl ?_
    refine ol_skip_g rfl rfl h1 rfl rfl ?_
    refine ol_pure rfl rfl rfl (pure_pick_f rfl rfl h1 rfl) ?_
    refine ol_pure rfl rfl rfl (pure_move rfl rfl) ?_
    refine ol_skip_g rfl rfl rfl rfl rfl ?_
    refine ol_skip_g rfl rfl rfl rfl rfl ?_
    refine ol_pure rfl rfl rfl (pure_pick_f rfl rfl rfl rfl) ?_
    refine ol_nil ?_
    refine spk 90 [(2,_),(3,_),(5,_),(6,_),(28,_)] [] rfl rfl rfl ?_
    refine code_cond_f rfl ?_
    refine code_exit ?_
    refine seqQ_exit ?_
    refine loopM_exit ?_
    refine blockQ_same ?_
    refine spk 90 [(2,_),(3,_),(5,_)] [] rfl rfl rfl ?_
    refine code_cut (fun zs => ∃ z : Int, (z = thn (orderI a.kind b.kind) (orderL a.syms b.syms)) ∧ zs = ⟨90, [(2, .v .mx (rpc a)), (3, .v .mx (rpc b)), (5, .v .pl (int z))], []⟩) ?_ ?_
    ·skip
     refine code_seq ?_
     refine code_ops _ rfl ?_
     refine ol_pure rfl rfl rfl (pure_move rfl rfl) ?_
     refine ol_pure rfl rfl rfl (pure_eql rfl rfl rfl) ?_
     refine ol_nil ?_
     refine spk 90 [(2,_),(3,_),(5,_),(43,_)] [] rfl rfl rfl ?_
     refine code_cond rfl (fun h18 => ?_) (fun h18 => ?_)
     ·try simp only [dq] at h18
      refine code_ops _ rfl ?_
      refine ol_pure rfl rfl rfl (pure_field rfl fd25_1 rfl) ?_
      refine ol_pure rfl rfl rfl (pure_load rfl ag22 rfl rfl) ?_
      refine ol_pure rfl rfl rfl (pure_lenm rfl Tryz.underlying22 rfl) ?_
      refine ol_pure rfl rfl rfl (pure_field rfl fd25_1 rfl) ?_
      refine ol_pure rfl rfl rfl (pure_load rfl ag22 rfl rfl) ?_
      refine ol_pure rfl rfl rfl (pure_lenm rfl Tryz.underlying22 rfl) ?_
      refine ol_pure rfl rfl rfl (pure_call rfl rfl rfl (orderI_call) hM0) ?_
      refine ol_pure rfl rfl rfl (pure_assign rfl rfl) ?_
      refine ol_nil ?_
      refine cut_next (n := 90) (l := [(2, _), (3, _), (5, _)]) (o' := []) rfl ⟨rfl, rfl, rfl, trivial⟩ trivial ?_
      first | (exfalso; omega) | exact ⟨_, thn_end hL1_2 (by omega), rfl⟩ | exact ⟨_, thn_ord hL1_2 (by omega) hL1_0 hL1_1 (by omega), rfl⟩
     ·try simp only [dq] at h18
      refine code_skip ?_
      refine cut_next (n := 90) (l := [(2, _), (3, _), (5, _)]) (o' := []) rfl ⟨rfl, rfl, rfl, trivial⟩ trivial ?_
      first | (exfalso; omega) | exact ⟨_, thn_end hL1_2 (by omega), rfl⟩ | exact ⟨_, thn_ord hL1_2 (by omega) hL1_0 hL1_1 (by omega), rfl⟩
    ·rintro zs ⟨z, hC8_0, rfl⟩
     refine code_seq ?_
     refine code_seq ?_
     refine code_ops _ rfl ?_
     refine ol_pure rfl rfl rfl (pure_assign rfl rfl) ?_
     refine ol_nil ?_
     refine spk 90 [(2,_),(3,_),(5,_),(7,_)] [] rfl rfl rfl ?_
     refine code_block ?_
     refine code_loopM (fun zm zs => ∃ (i : Nat) (c : Int), zm = a.kids.length - i ∧ (i ≤ a.kids.length) ∧ (i ≤ b.kids.length) ∧ (cmpR a b = thn c (cmpRs (a.kids.drop i) (b.kids.drop i))) ∧ zs = ⟨90, [(2, .v .mx (rpc a)), (3, .v .mx (rpc b)), (5, .v .pl (int c)), (7, .v .pl (int i))], []⟩) (loop_init (n := 90) (l := [(2, _), (3, _), (5, _), (7, _)]) (o' := []) rfl ⟨rfl, rfl, rfl, rfl, trivial⟩ trivial ?_) ?_
     ·exact ⟨_, 0, _, rfl, Nat.zero_le _, Nat.zero_le _, by rw [hC8_0]; exact cmpR_eq a b, rfl⟩
     ·rintro zm zs ⟨i, c, rfl, hL2_0, hL2_1, hL2_2, rfl⟩
      refine code_seq ?_
      refine code_seq ?_
      refine code_ops _ rfl ?_
      refine ol_pure rfl rfl rfl (pure_move rfl rfl) ?_
      refine ol_pure rfl rfl rfl (pure_field rfl fd25_2 rfl) ?_
      refine ol_pure rfl rfl rfl (pure_load rfl ag23 rfl rfl) ?_
      refine ol_pure rfl rfl rfl (pure_lenm rfl Tryz.underlying23 rfl) ?_
      refine ol_pure rfl rfl rfl (pure_lss rfl rfl rfl) ?_
      refine ol_pure rfl rfl rfl (pure_move rfl rfl) ?_
      refine ol_guard rfl (fun h19 => ?_) (fun h19 => ?_)
      ·have h19' := h19; try simp only [dq] at h19'
       refine ol_pure_g rfl rfl h19 rfl rfl (pure_move rfl rfl) ?_
       refine opk 90 [(2,_),(3,_),(5,_),(7,_),(56,_),(57,_)] [] rfl rfl rfl ?_
       refine ol_pure_g rfl rfl h19 rfl rfl (pure_field rfl fd25_2 rfl) ?_
       refine ol_pure_g rfl rfl h19 rfl rfl (pure_load rfl ag23 rfl rfl) ?_
       refine ol_pure_g rfl rfl h19 rfl rfl (pure_lenm rfl Tryz.underlying23 rfl) ?_
       refine ol_pure_g rfl rfl h19 rfl rfl (pure_lss rfl rfl rfl) ?_
       refine ol_pure rfl rfl rfl (pure_pick_t rfl rfl h19 rfl) ?_
       refine ol_pure rfl rfl rfl (pure_move rfl rfl) ?_
       refine ol_guard rfl (fun h20 => ?_) (fun h20 => ?_)
       ·have h20' := h20; try simp only [dq] at h20'
        refine ol_pure_g rfl rfl h20 rfl rfl (pure_move rfl rfl) ?_
        refine ol_pure_g rfl rfl h20 rfl rfl (pure_eql rfl rfl rfl) ?_
        refine ol_pure rfl rfl rfl (pure_pick_t rfl rfl h20 rfl) ?_
        refine ol_nil ?_
        refine spk 90 [(2,_),(3,_),(5,_),(7,_),(66,_)] [] rfl rfl rfl ?_
        refine code_cond rfl (fun h21 => ?_) (fun h21 => ?_)
        ·try simp only [dq] at h21
         refine code_skip ?_
         refine spk 90 [(2,_),(3,_),(7,_)] [] rfl rfl rfl ?_
         refine code_seq ?_
         refine code_block ?_
         refine code_draw mixed (by kernel_rfl) _ rfl ?_
         refine dl_pure rfl rfl rfl (pure_field rfl fd25_2 rfl) ?_
         refine dl_pure rfl rfl rfl (pure_load rfl ag23 rfl rfl) ?_
         refine dl_pure rfl rfl rfl (pure_move rfl rfl) ?_
         first | refine dl_pure rfl rfl rfl (pure_indexn rfl Tryz.underlying23 sz25 rfl rfl (by omega) (fun _ => rfl)) ?_ | refine dl_pure rfl rfl rfl (pure_indexm rfl Tryz.underlying23 sz25 rfl rfl (by omega) (fun _ => rfl)) ?_
         refine dl_pure rfl rfl rfl (pure_load_agg rfl ag25 sz25 rfl (Nat.le_of_ble_eq_true rfl)) ?_
         refine dl_pure rfl rfl rfl (pure_field rfl fd25_2 rfl) ?_
         refine dl_pure rfl rfl rfl (pure_load rfl ag23 rfl rfl) ?_
         refine dpk 90 [(2,_),(3,_),(7,_),(73,_),(75,_)] [] rfl rfl rfl ?_
         refine dl_pure rfl rfl rfl (pure_move rfl rfl) ?_
         first | refine dl_pure rfl rfl rfl (pure_indexn rfl Tryz.underlying23 sz25 rfl rfl (by omega) (fun _ => rfl)) ?_ | refine dl_pure rfl rfl rfl (pure_indexm rfl Tryz.underlying23 sz25 rfl rfl (by omega) (fun _ => rfl)) ?_
         refine dl_pure rfl rfl rfl (pure_load_agg rfl ag25 sz25 rfl (Nat.le_of_ble_eq_true rfl)) ?_
         refine dl_pure rfl rfl rfl (pure_call rfl rfl rfl (ih _ _ (Nat.le_of_lt_succ (Nat.lt_of_lt_of_le (kid_lt (by omega)) hr)) (by omega) (Nat.le_trans (Nat.le_of_lt (kid_lt (by omega))) hbs)) hM0) ?_
         refine dl_pure rfl rfl rfl (pure_assign rfl rfl) ?_
         refine dl_nil ?_
         refine blockQ_normal ?_
         refine spk 90 [(2,_),(3,_),(5,_),(7,_)] [] rfl rfl rfl ?_
         refine code_ops _ rfl ?_
         refine ol_pure rfl rfl rfl (pure_move rfl rfl) ?_
         refine ol_pure rfl rfl rfl (pure_addi rfl rfl rfl (by omega)) ?_
         refine ol_pure rfl rfl rfl (pure_assign rfl rfl) ?_
         refine ol_nil ?_
         refine loop_next (n := 90) (l := [(2, _), (3, _), (5, _), (7, _)]) (o' := []) rfl ⟨rfl, rfl, rfl, rfl, trivial⟩ trivial ?_
         exact ⟨_, ⟨i + 1, _, rfl, by omega, by omega, thn_cmpS hL2_2 (by omega) (by omega) (by omega), rfl⟩, by omega⟩
        ·try simp only [dq] at h21
         refine code_exit ?_
         refine seqQ_exit ?_
         refine loopM_exit ?_
         refine blockQ_same ?_
         refine spk 90 [(2,_),(3,_),(5,_)] [] rfl rfl rfl ?_
         refine code_seq ?_
         refine code_seq ?_
         refine code_ops _ rfl ?_
         refine ol_pure rfl rfl rfl (pure_move rfl rfl) ?_
         refine ol_pure rfl rfl rfl (pure_eql rfl rfl rfl) ?_
         refine ol_nil ?_
         refine spk 90 [(2,_),(3,_),(5,_),(81,_)] [] rfl rfl rfl ?_
         refine code_cond rfl (fun h22 => ?_) (fun h22 => ?_)
         ·try simp only [dq] at h22
          refine code_ops _ rfl ?_
          refine ol_pure rfl rfl rfl (pure_field rfl fd25_2 rfl) ?_
          refine ol_pure rfl rfl rfl (pure_load rfl ag23 rfl rfl) ?_
          refine ol_pure rfl rfl rfl (pure_lenm rfl Tryz.underlying23 rfl) ?_
          refine ol_pure rfl rfl rfl (pure_field rfl fd25_2 rfl) ?_
          refine ol_pure rfl rfl rfl (pure_load rfl ag23 rfl rfl) ?_
          refine ol_pure rfl rfl rfl (pure_lenm rfl Tryz.underlying23 rfl) ?_
          refine ol_pure rfl rfl rfl (pure_call rfl rfl rfl (orderI_call) hM0) ?_
          refine ol_pure rfl rfl rfl (pure_assign rfl rfl) ?_
          refine ol_nil ?_
          refine spk 90 [(5,_)] [] rfl rfl rfl ?_
          refine code_seq ?_
          refine code_ops _ rfl ?_
          refine ol_pure rfl rfl rfl (pure_move rfl rfl) ?_
          refine ol_pure rfl rfl rfl (pure_assign rfl rfl) ?_
          refine ol_nil ?_
          refine spk 90 [(4,_)] [] rfl rfl rfl ?_
          refine code_ret ?_
          refine end_ret rfl ?_
          first | (exfalso; omega) | exact congrArg (fun z => RV.p (int z)) (thn_end hL2_2 (by omega)) | exact congrArg (fun z => RV.p (int z)) (thn_cmp hL2_2 (by omega) hL2_0 hL2_1 (by omega))
         ·try simp only [dq] at h22
          refine code_skip ?_
          refine spk 90 [(5,_)] [] rfl rfl rfl ?_
          refine code_seq ?_
          refine code_ops _ rfl ?_
          refine ol_pure rfl rfl rfl (pure_move rfl rfl) ?_
          refine ol_pure rfl rfl rfl (pure_assign rfl rfl) ?_
          refine ol_nil ?_
          refine spk 90 [(4,_)] [] rfl rfl rfl ?_
          refine code_ret ?_
          refine end_ret rfl ?_
          first | (exfalso; omega) | exact congrArg (fun z => RV.p (int z)) (thn_end hL2_2 (by omega)) | exact congrArg (fun z => RV.p (int z)) (thn_cmp hL2_2 (by omega) hL2_0 hL2_1 (by omega))
       ·have h20' := h20; try simp only [dq] at h20'
        refine ol_skip_g rfl rfl h20 rfl rfl ?_
        refine ol_skip_g rfl rfl h20 rfl rfl ?_
        refine ol_pure rfl rfl rfl (pure_pick_f rfl rfl h20 rfl) ?_
        refine ol_nil ?_
        refine spk 90 [(2,_),(3,_),(5,_),(7,_),(66,_)] [] rfl rfl rfl ?_
        refine code_cond_f rfl ?_
        refine code_exit ?_
        refine seqQ_exit ?_
        refine loopM_exit ?_
        refine blockQ_same ?_
        refine spk 90 [(2,_),(3,_),(5,_)] [] rfl rfl rfl ?_
        refine code_seq ?_
        refine code_seq ?_
        refine code_ops _ rfl ?_
        refine ol_pure rfl rfl rfl (pure_move rfl rfl) ?_
        refine ol_pure rfl rfl rfl (pure_eql rfl rfl rfl) ?_
        refine ol_nil ?_
        refine spk 90 [(2,_),(3,_),(5,_),(81,_)] [] rfl rfl rfl ?_
        refine code_cond rfl (fun h23 => ?_) (fun h23 => ?_)
        ·try simp only [dq] at h23
         refine code_ops _ rfl ?_
         refine ol_pure rfl rfl rfl (pure_field rfl fd25_2 rfl) ?_
         refine ol_pure rfl rfl rfl (pure_load rfl ag23 rfl rfl) ?_
         refine ol_pure rfl rfl rfl (pure_lenm rfl Tryz.underlying23 rfl) ?_
         refine ol_pure rfl rfl rfl (pure_field rfl fd25_2 rfl) ?_
         refine ol_pure rfl rfl rfl (pure_load rfl ag23 rfl rfl) ?_
         refine ol_pure rfl rfl rfl (pure_lenm rfl Tryz.underlying23 rfl) ?_
         refine ol_pure rfl rfl rfl (pure_call rfl rfl rfl (orderI_call) hM0) ?_
         refine ol_pure rfl rfl rfl (pure_assign rfl rfl) ?_
         refine ol_nil ?_
         refine spk 90 [(5,_)] [] rfl rfl rfl ?_
         refine code_seq ?_
         refine code_ops _ rfl ?_
         refine ol_pure rfl rfl rfl (pure_move rfl rfl) ?_
         refine ol_pure rfl rfl rfl (pure_assign rfl rfl) ?_
         refine ol_nil ?_
         refine spk 90 [(4,_)] [] rfl rfl rfl ?_
         refine code_ret ?_
         refine end_ret rfl ?_
         first | (exfalso; omega) | exact congrArg (fun z => RV.p (int z)) (thn_end hL2_2 (by omega)) | exact congrArg (fun z => RV.p (int z)) (thn_cmp hL2_2 (by omega) hL2_0 hL2_1 (by omega))
        ·try simp only [dq] at h23
         refine code_skip ?_
         refine spk 90 [(5,_)] [] rfl rfl rfl ?_
         refine code_seq ?_
         refine code_ops _ rfl ?_
         refine ol_pure rfl rfl rfl (pure_move rfl rfl) ?_
         refine ol_pure rfl rfl rfl (pure_assign rfl rfl) ?_
         refine ol_nil ?_
         refine spk 90 [(4,_)] [] rfl rfl rfl ?_
         refine code_ret ?_
         refine end_ret rfl ?_
         first | (exfalso; omega) | exact congrArg (fun z => RV.p (int z)) (thn_end hL2_2 (by omega)) | exact congrArg (fun z => RV.p (int z)) (thn_cmp hL2_2 (by omega) hL2_0 hL2_1 (by omega))
      ·have h19' := h19; try simp only [dq] at h19'
       refine ol_skip_g rfl rfl h19 rfl rfl ?_
       refine opk 90 [(2,_),(3,_),(5,_),(7,_),(56,_),(57,_)] [] rfl rfl rfl ?_
       refine ol_skip_g rfl rfl h19 rfl rfl ?_
       refine ol_skip_g rfl rfl h19 rfl rfl ?_
       refine ol_skip_g rfl rfl h19 rfl rfl ?_
       refine ol_skip_g rfl rfl h19 rfl rfl ?_
       refine ol_pure rfl rfl rfl (pure_pick_f rfl rfl h19 rfl) ?_
       refine ol_pure rfl rfl rfl (pure_move rfl rfl) ?_
       refine ol_skip_g rfl rfl rfl rfl rfl ?_
       refine ol_skip_g rfl rfl rfl rfl rfl ?_
       refine ol_pure rfl rfl rfl (pure_pick_f rfl rfl rfl rfl) ?_
       refine ol_nil ?_
       refine spk 90 [(2,_),(3,_),(5,_),(7,_),(66,_)] [] rfl rfl rfl ?_
       refine code_cond_f rfl ?_
       refine code_exit ?_
       refine seqQ_exit ?_
       refine loopM_exit ?_
       refine blockQ_same ?_
       refine spk 90 [(2,_),(3,_),(5,_)] [] rfl rfl rfl ?_
       refine code_seq ?_
       refine code_seq ?_
       refine code_ops _ rfl ?_
       refine ol_pure rfl rfl rfl (pure_move rfl rfl) ?_
       refine ol_pure rfl rfl rfl (pure_eql rfl rfl rfl) ?_
       refine ol_nil ?_
       refine spk 90 [(2,_),(3,_),(5,_),(81,_)] [] rfl rfl rfl ?_
       refine code_cond rfl (fun h24 => ?_) (fun h24 => ?_)
       ·try simp only [dq] at h24
        refine code_ops _ rfl ?_
        refine ol_pure rfl rfl rfl (pure_field rfl fd25_2 rfl) ?_
        refine ol_pure rfl rfl rfl (pure_load rfl ag23 rfl rfl) ?_
        refine ol_pure rfl rfl rfl (pure_lenm rfl Tryz.underlying23 rfl) ?_
        refine ol_pure rfl rfl rfl (pure_field rfl fd25_2 rfl) ?_
        refine ol_pure rfl rfl rfl (pure_load rfl ag23 rfl rfl) ?_
        refine ol_pure rfl rfl rfl (pure_lenm rfl Tryz.underlying23 rfl) ?_
        refine ol_pure rfl rfl rfl (pure_call rfl rfl rfl (orderI_call) hM0) ?_
        refine ol_pure rfl rfl rfl (pure_assign rfl rfl) ?_
        refine ol_nil ?_
        refine spk 90 [(5,_)] [] rfl rfl rfl ?_
        refine code_seq ?_
        refine code_ops _ rfl ?_
        refine ol_pure rfl rfl rfl (pure_move rfl rfl) ?_
        refine ol_pure rfl rfl rfl (pure_assign rfl rfl) ?_
        refine ol_nil ?_
        refine spk 90 [(4,_)] [] rfl rfl rfl ?_
        refine code_ret ?_
        refine end_ret rfl ?_
        first | (exfalso; omega) | exact congrArg (fun z => RV.p (int z)) (thn_end hL2_2 (by omega)) | exact congrArg (fun z => RV.p (int z)) (thn_cmp hL2_2 (by omega) hL2_0 hL2_1 (by omega))
       ·try simp only [dq] at h24
        refine code_skip ?_
        refine spk 90 [(5,_)] [] rfl rfl rfl ?_
        refine code_seq ?_
        refine code_ops _ rfl ?_
        refine ol_pure rfl rfl rfl (pure_move rfl rfl) ?_
        refine ol_pure rfl rfl rfl (pure_assign rfl rfl) ?_
        refine ol_nil ?_
        refine spk 90 [(4,_)] [] rfl rfl rfl ?_
        refine code_ret ?_
        refine end_ret rfl ?_
        first | (exfalso; omega) | exact congrArg (fun z => RV.p (int z)) (thn_end hL2_2 (by omega)) | exact congrArg (fun z => RV.p (int z)) (thn_cmp hL2_2 (by omega) hL2_0 hL2_1 (by omega))
end Go.Proofs.YtgdehkimfmfofaaGreat

