/-
  Contracts of small functions on lists of numbers.
-/
import Derived.Test.YtgdehkimfmfofaaGreatJ8
import Derived.Test.YtgdehkimfmfofaaGreatRows
import Derived.Test.YtgdehkimfmfofaaGreatJ9
import Derived.Test.YtgdehkimfmfofaaGreatJ10
import Derived.Test.YtgdehkimfmfofaaGreatJ11
import Derived.Test.YtgdehkimfmfofaaGreatJ14
set_option linter.unusedVariables false
set_option linter.unusedSimpArgs false
namespace Go.Proofs.YtgdehkimfmfofaaGreat
open Go.Am
theorem mixed : Tryz.prog.follows .mixedOrders = true := by kernel_rfl
theorem sz3 : szOf Tryz.prog 3 = some 1 := by kernel_rfl
theorem ag3 : isAggOf Tryz.prog 3 = some false := by kernel_rfl
theorem el3 : elOk Tryz.prog 3 1 8 = true := by kernel_rfl
theorem ze3 : zeroOf Tryz.prog 3 = some [.int .i64 0] := by kernel_rfl
theorem ag5 : isAggOf Tryz.prog 5 = some false := by kernel_rfl
theorem sz9 : szOf Tryz.prog 9 = some 1 := by kernel_rfl
theorem ag9 : isAggOf Tryz.prog 9 = some false := by kernel_rfl
theorem el9 : elOk Tryz.prog 9 1 16 = true := by kernel_rfl
theorem ze9 : zeroOf Tryz.prog 9 = some [.string ⟨#[]⟩] := by kernel_rfl
theorem sz22 : szOf Tryz.prog 22 = some 1 := by kernel_rfl
theorem ag22 : isAggOf Tryz.prog 22 = some false := by kernel_rfl
theorem ze22 : zeroOf Tryz.prog 22 = some [.slice none 0 0] := by kernel_rfl
theorem sz23 : szOf Tryz.prog 23 = some 1 := by kernel_rfl
theorem ag23 : isAggOf Tryz.prog 23 = some false := by kernel_rfl
theorem ze23 : zeroOf Tryz.prog 23 = some [.slice none 0 0] := by kernel_rfl
theorem sz25 : szOf Tryz.prog 25 = some 3 := by kernel_rfl
theorem ag25 : isAggOf Tryz.prog 25 = some true := by kernel_rfl
theorem el25 : elOk Tryz.prog 25 3 56 = true := by kernel_rfl
theorem ze25 : zeroOf Tryz.prog 25 = some [.int .i64 0, .slice none 0 0, .slice none 0 0] := by kernel_rfl
theorem pl25 : placesOf Tryz.prog 25 = some [(0, 1), (1, 1), (2, 1)] := by kernel_rfl
theorem fd25_0 : fldOf Tryz.prog 25 0 = some (0, 0 + 1, false) := by kernel_rfl
theorem fd25_1 : fldOf Tryz.prog 25 1 = some (1, 0 + 1, false) := by kernel_rfl
theorem fd25_2 : fldOf Tryz.prog 25 2 = some (2, 0 + 1, false) := by kernel_rfl
theorem ag39 : isAggOf Tryz.prog 39 = some false := by kernel_rfl
theorem sz70 : szOf Tryz.prog 70 = some 1 := by kernel_rfl
theorem ag70 : isAggOf Tryz.prog 70 = some false := by kernel_rfl
theorem ze70 : zeroOf Tryz.prog 70 = some [.slice none 0 0] := by kernel_rfl
theorem ze73 : zeroOf Tryz.prog 73 = some [.slice none 0 0, .int .i64 0] := by kernel_rfl
theorem pl73 : placesOf Tryz.prog 73 = some [(0, 1), (1, 1)] := by kernel_rfl
theorem fd73_0 : fldOf Tryz.prog 73 0 = some (0, 0 + 1, false) := by kernel_rfl
theorem fd73_1 : fldOf Tryz.prog 73 1 = some (1, 0 + 1, false) := by kernel_rfl
theorem sz76 : szOf Tryz.prog 76 = some 5 := by kernel_rfl
theorem ag76 : isAggOf Tryz.prog 76 = some true := by kernel_rfl
theorem el76 : elOk Tryz.prog 76 5 72 = true := by kernel_rfl
theorem ze76 : zeroOf Tryz.prog 76 = some [.int .u8 0, .int .i64 0, .slice none 0 0, .slice none 0 0, .int .i64 0] := by kernel_rfl
theorem pl76 : placesOf Tryz.prog 76 = some [(0, 1), (1, 3), (4, 1)] := by kernel_rfl
theorem fd76_0 : fldOf Tryz.prog 76 0 = some (0, 0 + 1, false) := by kernel_rfl
theorem fd76_1 : fldOf Tryz.prog 76 1 = some (1, 2 + 1, true) := by kernel_rfl
theorem fd76_2 : fldOf Tryz.prog 76 2 = some (4, 0 + 1, false) := by kernel_rfl
theorem sz83 : szOf Tryz.prog 83 = some 5 := by kernel_rfl
theorem ag83 : isAggOf Tryz.prog 83 = some true := by kernel_rfl
theorem el83 : elOk Tryz.prog 83 5 48 = true := by kernel_rfl
theorem ze83 : zeroOf Tryz.prog 83 = some [.string ⟨#[]⟩, .int .i64 0, .int .i64 0, .int .i64 0, .int .i64 0] := by kernel_rfl
theorem pl83 : placesOf Tryz.prog 83 = some [(0, 1), (1, 1), (2, 1), (3, 1), (4, 1)] := by kernel_rfl
theorem fd83_0 : fldOf Tryz.prog 83 0 = some (0, 0 + 1, false) := by kernel_rfl
theorem fd83_1 : fldOf Tryz.prog 83 1 = some (1, 0 + 1, false) := by kernel_rfl
theorem fd83_2 : fldOf Tryz.prog 83 2 = some (2, 0 + 1, false) := by kernel_rfl
theorem fd83_3 : fldOf Tryz.prog 83 3 = some (3, 0 + 1, false) := by kernel_rfl
theorem fd83_4 : fldOf Tryz.prog 83 4 = some (4, 0 + 1, false) := by kernel_rfl
theorem sz106 : szOf Tryz.prog 106 = some 2 := by kernel_rfl
theorem ag106 : isAggOf Tryz.prog 106 = some true := by kernel_rfl
theorem fd106_0 : fldOf Tryz.prog 106 0 = some (0, 0 + 1, false) := by kernel_rfl
theorem fd106_1 : fldOf Tryz.prog 106 1 = some (1, 0 + 1, false) := by kernel_rfl
end Go.Proofs.YtgdehkimfmfofaaGreat

namespace Go.Proofs.YtgdehkimfmfofaaGreat
open Go.Am Go.Wb
set_option linter.unusedVariables false
set_option linter.unusedSimpArgs false

theorem fn75 : Fn1 Tryz.prog 75 Tryz.f75.ntmps 4 (Tryz.f75.body.getD .skip) := ⟨Tryz.f75, Tryz.func75, rfl, rfl, rfl, by kernel_rfl⟩
set_option maxRecDepth 100000 in
set_option maxHeartbeats 1000000 in
theorem orderI_call {a b : Int} : CallF Tryz.prog 75 [int a, int b] (.p (int (orderI a b))) := by
  refine callF_of_code fn75 (Nat.le_of_ble_eq_true rfl) fun w0 M0 hM0 => ?_
  refine code_seq ?_
  refine code_ops _ rfl ?_
  refine ol_pure rfl rfl rfl (pure_assign rfl rfl) ?_
  refine ol_nil ?_
  refine spk 11 [(0,_),(1,_)] [] rfl rfl rfl ?_
  refine code_seq ?_
  refine code_seq ?_
  refine code_ops _ rfl ?_
  refine ol_pure rfl rfl rfl (pure_move rfl rfl) ?_
  refine ol_pure rfl rfl rfl (pure_move rfl rfl) ?_
  refine ol_pure rfl rfl rfl (pure_lss rfl rfl rfl) ?_
  refine ol_nil ?_
  refine spk 11 [(0,_),(1,_),(7,_)] [] rfl rfl rfl ?_
  refine code_cond rfl (fun h1 => ?_) (fun h1 => ?_)
  ·try simp only [dq] at h1
   refine code_seq ?_
   refine code_ops _ rfl ?_
   refine ol_pure rfl rfl rfl (pure_assign rfl rfl) ?_
   refine ol_nil ?_
   refine spk 11 [(4,_)] [] rfl rfl rfl ?_
   refine code_ret ?_
   refine seqQ_ret ?_
   refine end_ret rfl ?_
   unfold orderI; (repeat' split) <;> first | rfl | omega
  ·try simp only [dq] at h1
   refine code_skip ?_
   refine spk 11 [(0,_),(1,_)] [] rfl rfl rfl ?_
   refine code_seq ?_
   refine code_seq ?_
   refine code_ops _ rfl ?_
   refine ol_pure rfl rfl rfl (pure_move rfl rfl) ?_
   refine ol_pure rfl rfl rfl (pure_move rfl rfl) ?_
   refine ol_pure rfl rfl rfl (pure_gtr rfl rfl rfl) ?_
   refine ol_nil ?_
   refine spk 11 [(10,_)] [] rfl rfl rfl ?_
   refine code_cond rfl (fun h2 => ?_) (fun h2 => ?_)
   ·try simp only [dq] at h2
    refine code_seq ?_
    refine code_ops _ rfl ?_
    refine ol_pure rfl rfl rfl (pure_assign rfl rfl) ?_
    refine ol_nil ?_
    refine spk 11 [(4,_)] [] rfl rfl rfl ?_
    refine code_ret ?_
    refine seqQ_ret ?_
    refine end_ret rfl ?_
    unfold orderI; (repeat' split) <;> first | rfl | omega
   ·try simp only [dq] at h2
    refine code_skip ?_
    refine spk 11 [] [] rfl rfl rfl ?_
    refine code_seq ?_
    refine code_ops _ rfl ?_
    refine ol_pure rfl rfl rfl (pure_assign rfl rfl) ?_
    refine ol_nil ?_
    refine spk 11 [(4,_)] [] rfl rfl rfl ?_
    refine code_ret ?_
    refine end_ret rfl ?_
    unfold orderI; (repeat' split) <;> first | rfl | omega

theorem fn44 : Fn1 Tryz.prog 44 Tryz.f44.ntmps 2 (Tryz.f44.body.getD .skip) := ⟨Tryz.f44, Tryz.func44, rfl, rfl, rfl, by kernel_rfl⟩
set_option maxRecDepth 100000 in
set_option maxHeartbeats 1000000 in
theorem set_call {l : List Int} (hl : l.length ≤ 1099511627776) : CallF Tryz.prog 44 [ints l] (.p (bool (setOk l))) := by
  refine callF_of_code fn44 (Nat.le_of_ble_eq_true rfl) fun w0 M0 hM0 => ?_
  refine code_seq ?_
  refine code_ops _ rfl ?_
  refine ol_pure rfl rfl rfl (pure_assign rfl rfl) ?_
  refine ol_nil ?_
  refine spk 35 [(0,_)] [] rfl rfl rfl ?_
  refine code_seq ?_
  refine code_seq ?_
  refine code_ops _ rfl ?_
  refine ol_pure rfl rfl rfl (pure_move rfl rfl) ?_
  refine ol_pure rfl rfl rfl (pure_lenm rfl Tryz.underlying22 rfl) ?_
  refine ol_pure rfl rfl rfl (pure_move rfl rfl) ?_
  refine ol_nil ?_
  refine spk 35 [(0,_),(5,_),(6,_),(7,_)] [] rfl rfl rfl ?_
  refine code_block ?_
  refine code_loopM (fun zm zs => ∃ k : Nat, zm = l.length - k ∧ (k ≤ l.length) ∧ (∀ j, j < k → okAt l j) ∧ zs = ⟨35, [(0, .v .mx (ints l)), (5, .v .mx (ints l)), (6, .v .pl (int l.length)), (7, .v .pl (int k))], []⟩) (loop_init (n := 35) (l := [(0, _), (5, _), (6, _), (7, _)]) (o' := []) rfl ⟨rfl, rfl, rfl, rfl, trivial⟩ trivial ?_) ?_
  ·exact ⟨_, 0, rfl, Nat.zero_le _, fun j hj => absurd hj (by omega), rfl⟩
  ·rintro zm zs ⟨k, rfl, hL1_0, hL1_1, rfl⟩
   refine code_seq ?_
   refine code_ops _ rfl ?_
   refine ol_pure rfl rfl rfl (pure_lss rfl rfl rfl) ?_
   refine ol_nil ?_
   refine spk 35 [(0,_),(5,_),(6,_),(7,_),(8,_)] [] rfl rfl rfl ?_
   refine code_seq ?_
   refine code_cond rfl (fun h1 => ?_) (fun h1 => ?_)
   ·try simp only [dq] at h1
    refine code_skip ?_
    refine spk 35 [(0,_),(5,_),(6,_),(7,_)] [] rfl rfl rfl ?_
    refine code_seq ?_
    refine code_block ?_
    refine code_seq ?_
    refine code_ops _ rfl ?_
    refine ol_pure rfl rfl rfl (pure_move rfl rfl) ?_
    first | refine ol_pure rfl rfl rfl (pure_indexn rfl Tryz.underlying22 sz3 rfl rfl (by omega) (fun _ => rfl)) ?_ | refine ol_pure rfl rfl rfl (pure_indexm rfl Tryz.underlying22 sz3 rfl rfl (by omega) (fun _ => rfl)) ?_
    refine ol_pure rfl rfl rfl (pure_load rfl ag3 rfl rfl) ?_
    refine ol_pure rfl rfl rfl (pure_assign rfl rfl) ?_
    refine ol_pure rfl rfl rfl (pure_assign rfl rfl) ?_
    refine ol_nil ?_
    refine spk 35 [(0,_),(3,_),(4,_),(5,_),(6,_),(7,_)] [] rfl rfl rfl ?_
    refine code_seq ?_
    refine code_ops _ rfl ?_
    refine ol_pure rfl rfl rfl (pure_move rfl rfl) ?_
    refine ol_pure rfl rfl rfl (pure_lss rfl rfl rfl) ?_
    refine ol_pure rfl rfl rfl (pure_move rfl rfl) ?_
    refine ol_guard rfl (fun h2 => ?_) (fun h2 => ?_)
    ·have h2' := h2; try simp only [dq] at h2'
     refine ol_skip_g rfl rfl h2 rfl rfl ?_
     refine ol_skip_g rfl rfl h2 rfl rfl ?_
     refine ol_pure rfl rfl rfl (pure_pick_t rfl rfl h2 rfl) ?_
     refine ol_pure rfl rfl rfl (pure_move rfl rfl) ?_
     refine opk 35 [(0,_),(3,_),(4,_),(5,_),(6,_),(7,_),(18,_)] [] rfl rfl rfl ?_
     refine ol_skip_g rfl rfl rfl rfl rfl ?_
     refine ol_skip_g rfl rfl rfl rfl rfl ?_
     refine ol_skip_g rfl rfl rfl rfl rfl ?_
     refine ol_skip_u rfl rfl rfl ?_
     refine ol_skip_u rfl rfl rfl ?_
     refine ol_skip_u rfl rfl rfl ?_
     refine ol_skip_u rfl rfl rfl ?_
     refine opk 35 [(0,_),(5,_),(6,_),(7,_),(18,_),(21,_),(22,_),(23,_),(25,_)] [] rfl rfl rfl ?_
     refine ol_skip_u rfl rfl rfl ?_
     refine ol_skip_u rfl rfl rfl ?_
     refine ol_skip_u rfl rfl rfl ?_
     refine ol_skip_g rfl rfl rfl rfl rfl ?_
     refine ol_pure rfl rfl rfl (pure_pick_t rfl rfl rfl rfl) ?_
     refine ol_nil ?_
     refine spk 35 [(0,_),(5,_),(6,_),(7,_),(30,_)] [] rfl rfl rfl ?_
     refine code_cond_t rfl ?_
     refine code_seq ?_
     refine code_ops _ rfl ?_
     refine ol_pure rfl rfl rfl (pure_assign rfl rfl) ?_
     refine ol_nil ?_
     refine spk 35 [(2,_)] [] rfl rfl rfl ?_
     refine code_ret ?_
     refine blockQ_ret ?_
     refine seqQ_ret ?_
     refine loopM_ret ?_
     refine blockQ_ret ?_
     refine seqQ_ret ?_
     refine end_ret rfl ?_
     rw [← setOk_no (l := l) (k := k) (by omega) (fun q => by obtain ⟨q1, q2, q3⟩ := q; omega)]
    ·have h2' := h2; try simp only [dq] at h2'
     refine ol_pure_g rfl rfl h2 rfl rfl (pure_move rfl rfl) ?_
     refine ol_pure_g rfl rfl h2 rfl rfl (pure_geq rfl rfl rfl) ?_
     refine ol_pure rfl rfl rfl (pure_pick_f rfl rfl h2 rfl) ?_
     refine ol_pure rfl rfl rfl (pure_move rfl rfl) ?_
     refine opk 35 [(0,_),(3,_),(4,_),(5,_),(6,_),(7,_),(18,_)] [] rfl rfl rfl ?_
     refine ol_guard rfl (fun h3 => ?_) (fun h3 => ?_)
     ·have h3' := h3; try simp only [dq] at h3'
      refine opk 35 [(0,_),(3,_),(4,_),(5,_),(6,_),(7,_),(18,_)] [] rfl rfl rfl ?_
      refine ol_skip_g rfl rfl h3 rfl rfl ?_
      refine ol_skip_g rfl rfl h3 rfl rfl ?_
      refine ol_skip_g rfl rfl h3 rfl rfl ?_
      refine ol_skip_u rfl rfl rfl ?_
      refine ol_skip_u rfl rfl rfl ?_
      refine ol_skip_u rfl rfl rfl ?_
      refine ol_skip_u rfl rfl rfl ?_
      refine opk 35 [(0,_),(5,_),(6,_),(7,_),(18,_),(21,_),(22,_),(23,_),(25,_)] [] rfl rfl rfl ?_
      refine ol_skip_u rfl rfl rfl ?_
      refine ol_skip_u rfl rfl rfl ?_
      refine ol_skip_u rfl rfl rfl ?_
      refine ol_skip_g rfl rfl h3 rfl rfl ?_
      refine ol_pure rfl rfl rfl (pure_pick_t rfl rfl h3 rfl) ?_
      refine ol_nil ?_
      refine spk 35 [(0,_),(5,_),(6,_),(7,_),(30,_)] [] rfl rfl rfl ?_
      refine code_cond_t rfl ?_
      refine code_seq ?_
      refine code_ops _ rfl ?_
      refine ol_pure rfl rfl rfl (pure_assign rfl rfl) ?_
      refine ol_nil ?_
      refine spk 35 [(2,_)] [] rfl rfl rfl ?_
      refine code_ret ?_
      refine blockQ_ret ?_
      refine seqQ_ret ?_
      refine loopM_ret ?_
      refine blockQ_ret ?_
      refine seqQ_ret ?_
      refine end_ret rfl ?_
      rw [← setOk_no (l := l) (k := k) (by omega) (fun q => by obtain ⟨q1, q2, q3⟩ := q; omega)]
     ·have h3' := h3; try simp only [dq] at h3'
      refine opk 35 [(0,_),(3,_),(4,_),(5,_),(6,_),(7,_),(18,_)] [] rfl rfl rfl ?_
      refine ol_pure_g rfl rfl h3 rfl rfl (pure_move rfl rfl) ?_
      refine ol_pure_g rfl rfl h3 rfl rfl (pure_gtr rfl rfl rfl) ?_
      refine ol_pure_g rfl rfl h3 rfl rfl (pure_move rfl rfl) ?_
      refine ol_guard rfl (fun h4 => ?_) (fun h4 => ?_)
      ·have h4' := h4; try simp only [dq] at h4'
       refine ol_pure_g rfl rfl h4 rfl rfl (pure_move rfl rfl) ?_
       refine ol_pure_g rfl rfl h4 rfl rfl (pure_move rfl rfl) ?_
       refine ol_pure_g rfl rfl h4 rfl rfl (pure_move rfl rfl) ?_
       refine ol_pure_g rfl rfl h4 rfl rfl (pure_subi rfl rfl rfl (by omega)) ?_
       refine opk 35 [(0,_),(5,_),(6,_),(7,_),(18,_),(21,_),(22,_),(23,_),(25,_)] [] rfl rfl rfl ?_
       first | refine ol_pure_g rfl rfl h4 rfl rfl (pure_indexn rfl Tryz.underlying22 sz3 rfl rfl (by omega) (fun _ => rfl)) ?_ | refine ol_pure_g rfl rfl h4 rfl rfl (pure_indexm rfl Tryz.underlying22 sz3 rfl rfl (by omega) (fun _ => rfl)) ?_
       refine ol_pure_g rfl rfl h4 rfl rfl (pure_load rfl ag3 rfl rfl) ?_
       refine ol_pure_g rfl rfl h4 rfl rfl (pure_leq rfl rfl rfl) ?_
       refine ol_pure_g rfl rfl h3 rfl rfl (pure_pick_t rfl rfl h4 rfl) ?_
       refine ol_pure rfl rfl rfl (pure_pick_f rfl rfl h3 rfl) ?_
       refine ol_nil ?_
       refine spk 35 [(0,_),(5,_),(6,_),(7,_),(30,_)] [] rfl rfl rfl ?_
       refine code_cond rfl (fun h5 => ?_) (fun h5 => ?_)
       ·try simp only [dq] at h5
        refine code_seq ?_
        refine code_ops _ rfl ?_
        refine ol_pure rfl rfl rfl (pure_assign rfl rfl) ?_
        refine ol_nil ?_
        refine spk 35 [(2,_)] [] rfl rfl rfl ?_
        refine code_ret ?_
        refine blockQ_ret ?_
        refine seqQ_ret ?_
        refine loopM_ret ?_
        refine blockQ_ret ?_
        refine seqQ_ret ?_
        refine end_ret rfl ?_
        rw [← setOk_no (l := l) (k := k) (by omega) (fun q => by obtain ⟨q1, q2, q3⟩ := q; omega)]
       ·try simp only [dq] at h5
        refine code_skip ?_
        refine blockQ_normal ?_
        refine spk 35 [(0,_),(5,_),(6,_),(7,_)] [] rfl rfl rfl ?_
        refine code_ops _ rfl ?_
        refine ol_pure rfl rfl rfl (pure_addi rfl rfl rfl (by omega)) ?_
        refine ol_pure rfl rfl rfl (pure_move rfl rfl) ?_
        refine ol_nil ?_
        refine loop_next (n := 35) (l := [(0, _), (5, _), (6, _), (7, _)]) (o' := []) rfl ⟨rfl, rfl, rfl, rfl, trivial⟩ trivial ?_
        exact ⟨_, ⟨k + 1, rfl, by omega, all_step hL1_1 ⟨by omega, by omega, fun _ => by omega⟩, rfl⟩, by omega⟩
      ·have h4' := h4; try simp only [dq] at h4'
       refine ol_skip_g rfl rfl h4 rfl rfl ?_
       refine ol_skip_g rfl rfl h4 rfl rfl ?_
       refine ol_skip_g rfl rfl h4 rfl rfl ?_
       refine ol_skip_g rfl rfl h4 rfl rfl ?_
       refine opk 35 [(0,_),(5,_),(6,_),(7,_),(18,_),(21,_),(22,_),(23,_),(25,_)] [] rfl rfl rfl ?_
       refine ol_skip_g rfl rfl h4 rfl rfl ?_
       refine ol_skip_g rfl rfl h4 rfl rfl ?_
       refine ol_skip_g rfl rfl h4 rfl rfl ?_
       refine ol_pure_g rfl rfl h3 rfl rfl (pure_pick_f rfl rfl h4 rfl) ?_
       refine ol_pure rfl rfl rfl (pure_pick_f rfl rfl h3 rfl) ?_
       refine ol_nil ?_
       refine spk 35 [(0,_),(5,_),(6,_),(7,_),(30,_)] [] rfl rfl rfl ?_
       refine code_cond_f rfl ?_
       refine code_skip ?_
       refine blockQ_normal ?_
       refine spk 35 [(0,_),(5,_),(6,_),(7,_)] [] rfl rfl rfl ?_
       refine code_ops _ rfl ?_
       refine ol_pure rfl rfl rfl (pure_addi rfl rfl rfl (by omega)) ?_
       refine ol_pure rfl rfl rfl (pure_move rfl rfl) ?_
       refine ol_nil ?_
       refine loop_next (n := 35) (l := [(0, _), (5, _), (6, _), (7, _)]) (o' := []) rfl ⟨rfl, rfl, rfl, rfl, trivial⟩ trivial ?_
       exact ⟨_, ⟨k + 1, rfl, by omega, all_step hL1_1 ⟨by omega, by omega, fun _ => by omega⟩, rfl⟩, by omega⟩
   ·try simp only [dq] at h1
    refine code_exit ?_
    refine seqQ_exit ?_
    refine loopM_exit ?_
    refine blockQ_same ?_
    refine spk 35 [(0,_)] [] rfl rfl rfl ?_
    refine code_seq ?_
    refine code_ops _ rfl ?_
    refine ol_pure rfl rfl rfl (pure_move rfl rfl) ?_
    refine ol_pure rfl rfl rfl (pure_lenm rfl Tryz.underlying22 rfl) ?_
    refine ol_pure rfl rfl rfl (pure_gtr rfl rfl rfl) ?_
    refine ol_pure rfl rfl rfl (pure_assign rfl rfl) ?_
    refine ol_nil ?_
    refine spk 35 [(2,_)] [] rfl rfl rfl ?_
    refine code_ret ?_
    refine end_ret rfl ?_
    rw [setOk_end (fun j hj => hL1_1 j (by omega))]; exact congrArg (fun b => RV.p (bool b)) (decide_eq_decide.2 (by omega))

end Go.Proofs.YtgdehkimfmfofaaGreat

namespace Go.Proofs.YtgdehkimfmfofaaGreat
open Go.Am Go.Wb
set_option linter.unusedVariables false
set_option linter.unusedSimpArgs false

theorem src_avs {P : Program} {w0 : Fr} {M0 : Nat → Prop} {s : St} {y : Operand} {l : List Rx} (hy : Am.viewAt s.ev s.o y = some (.pl, .sl (Rx.avs l))) : Src P w0 M0 s y 3 (l.map rx) := by
  rw [avs_eq] at hy; exact src_plm hy (fun _ => rfl)

theorem fn54 : FnC Tryz.prog 54 Tryz.f54.ntmps 2 25 3 (Tryz.f54.body.getD .skip) := ⟨Tryz.f54, Tryz.func54, rfl, rfl, rfl, by kernel_rfl, ag25, sz25⟩
set_option maxRecDepth 100000 in
set_option maxHeartbeats 1000000 in
theorem one_call (s : List Int) : CallN Tryz.prog 54 [ints s] (.p (rx (.mk 2 s []))) := by
  refine callN_of_codeC fn54 (Nat.le_of_ble_eq_true rfl) fun w0 M0 hM0 => ?_
  refine code_seq ?_
  refine code_ops _ rfl ?_
  refine ol_step rfl (step_alloc rfl rfl rfl rfl rfl ze25 rfl hM0) ?_
  refine ol_nil ?_
  refine spk 5 [(0,_),(2,_)] [(2,_)] rfl rfl rfl ?_
  refine code_seq ?_
  refine code_ops _ rfl ?_
  refine ol_pure rfl rfl rfl (pure_move rfl rfl) ?_
  refine ol_pure rfl rfl rfl (pure_build rfl pl25 ze25 rfl rfl rfl) ?_
  refine ol_step rfl (step_store_box rfl rfl rfl sz25 rfl rfl rfl rfl (by decide) rfl rfl hM0) ?_
  refine ol_nil ?_
  refine spk 5 [(2,_)] [(2,_)] rfl rfl rfl ?_
  refine code_ret ?_
  refine endC_ret rfl ?_
  rfl

theorem fn40 : FnC Tryz.prog 40 Tryz.f40.ntmps 4 25 3 (Tryz.f40.body.getD .skip) := ⟨Tryz.f40, Tryz.func40, rfl, rfl, rfl, by kernel_rfl, ag25, sz25⟩
set_option maxRecDepth 100000 in
set_option maxHeartbeats 1000000 in
theorem of_call (k : Int) (l : List Rx) : CallN Tryz.prog 40 [int k, rxs l] (.p (rx (.mk k [] l))) := by
  refine callN_of_codeC fn40 (Nat.le_of_ble_eq_true rfl) fun w0 M0 hM0 => ?_
  refine code_seq ?_
  refine code_ops _ rfl ?_
  refine ol_step rfl (step_alloc rfl rfl rfl rfl rfl ze25 rfl hM0) ?_
  refine ol_nil ?_
  refine spk 8 [(0,_),(1,_),(4,_)] [(4,_)] rfl rfl rfl ?_
  refine code_seq ?_
  refine code_ops _ rfl ?_
  refine ol_pure rfl rfl rfl (pure_move rfl rfl) ?_
  refine ol_pure rfl rfl rfl (pure_move rfl rfl) ?_
  refine ol_pure rfl rfl rfl (pure_build rfl pl25 ze25 rfl rfl rfl) ?_
  refine ol_step rfl (step_store_box rfl rfl rfl sz25 rfl rfl rfl rfl (by decide) rfl rfl hM0) ?_
  refine ol_nil ?_
  refine spk 8 [(4,_)] [(4,_)] rfl rfl rfl ?_
  refine code_ret ?_
  refine endC_ret rfl ?_
  rw [rx_mk]; rfl

theorem fn77 : FnC Tryz.prog 77 Tryz.f77.ntmps 2 25 3 (Tryz.f77.body.getD .skip) := ⟨Tryz.f77, Tryz.func77, rfl, rfl, rfl, by kernel_rfl, ag25, sz25⟩
set_option maxRecDepth 100000 in
set_option maxHeartbeats 4000000 in
theorem seq_call {l : List Rx} (hs : Rx.sizes l ≤ 1099511627776) : CallN Tryz.prog 77 [rxs l] (.p (rx (seqN l))) := by
  have hl := sizes_len l
  refine callN_of_codeC fn77 (Nat.le_of_ble_eq_true rfl) fun w0 M0 hM0 => ?_
  refine code_seq ?_
  refine code_ops _ rfl ?_
  refine ol_step rfl (step_alloc rfl rfl rfl rfl rfl ze25 rfl hM0) ?_
  refine ol_nil ?_
  refine spk 42 [(0,_),(2,_)] [(2,_)] rfl rfl rfl ?_
  refine code_seq ?_
  refine code_ops _ rfl ?_
  refine ol_step rfl (step_nil rfl rfl rfl rfl rfl 25 hM0) ?_
  refine ol_nil ?_
  refine spk 42 [(0,_),(2,_),(3,_)] [(2,_),(3,_)] rfl rfl rfl ?_
  refine code_seq ?_
  refine code_seq ?_
  refine code_ops _ rfl ?_
  refine ol_pure rfl rfl rfl (pure_move rfl rfl) ?_
  refine ol_pure rfl rfl rfl (pure_lenm rfl Tryz.underlying23 rfl) ?_
  refine ol_pure rfl rfl rfl (pure_move rfl rfl) ?_
  refine ol_nil ?_
  refine spk 42 [(2,_),(3,_),(6,_),(7,_),(8,_)] [(2,_),(3,_)] rfl rfl rfl ?_
  refine code_block ?_
  refine code_loopM (fun zm zs => ∃ i : Nat, zm = l.length - i ∧ (i ≤ l.length) ∧ (∀ j, j < i → (l.getD j default).kind ≠ 0) ∧ zs = ⟨42, [(2, .pbox 2 0), (3, .own 3), (6, .v .pl (rxs l)), (7, .v .pl (int l.length)), (8, .v .pl (int i))], [(2, .box 25 [.v .pl (.sc (.int .i64 0)), .v .pl (.sc (.slice none 0 0)), .v .pl (.sc (.slice none 0 0))]), (3, .arr 25 ((seqL (l.take i)).map rx))]⟩) (loop_init (n := 42) (l := [(2, _), (3, _), (6, _), (7, _), (8, _)]) (o' := [(2, _), (3, _)]) rfl ⟨rfl, rfl, rfl, rfl, rfl, trivial⟩ ⟨rfl, rfl, trivial⟩ ?_) ?_
  ·exact ⟨_, 0, rfl, Nat.zero_le _, fun j hj => absurd hj (by omega), rfl⟩
  ·rintro zm zs ⟨i, rfl, hL1_0, hL1_1, rfl⟩
   have hroom := fun h => seqL_room (l := l) (i := i) h
   refine code_seq ?_
   refine code_ops _ rfl ?_
   refine ol_pure rfl rfl rfl (pure_lss rfl rfl rfl) ?_
   refine ol_nil ?_
   refine spk 42 [(2,_),(3,_),(6,_),(7,_),(8,_),(9,_)] [(2,_),(3,_)] rfl rfl rfl ?_
   refine code_seq ?_
   refine code_cond rfl (fun h1 => ?_) (fun h1 => ?_)
   ·try simp only [dq] at h1
    refine code_skip ?_
    refine spk 42 [(2,_),(3,_),(6,_),(7,_),(8,_)] [(2,_),(3,_)] rfl rfl rfl ?_
    refine code_seq ?_
    refine code_block ?_
    refine code_seq ?_
    refine code_ops _ rfl ?_
    first | refine ol_pure rfl rfl rfl (pure_indexn rfl Tryz.underlying23 sz25 rfl rfl (by omega) (fun _ => rfl)) ?_ | refine ol_pure rfl rfl rfl (pure_indexm rfl Tryz.underlying23 sz25 rfl rfl (by omega) (fun _ => rfl)) ?_
    refine ol_pure rfl rfl rfl (pure_load_agg rfl ag25 sz25 rfl (Nat.le_of_ble_eq_true rfl)) ?_
    refine ol_step rfl (step_alloc rfl rfl rfl rfl rfl ze25 rfl hM0) ?_
    refine ol_step rfl (step_store_box rfl rfl rfl sz25 rfl rfl rfl rfl (by decide) rfl rfl hM0) ?_
    refine ol_nil ?_
    refine spk 42 [(2,_),(3,_),(5,_),(6,_),(7,_),(8,_)] [(2,_),(3,_),(5,_)] rfl rfl rfl ?_
    refine code_seq ?_
    refine code_ops _ rfl ?_
    refine ol_pure rfl rfl rfl (pure_field_box rfl fd25_0 rfl rfl) ?_
    refine ol_pure rfl rfl rfl (pure_load_box rfl ag3 rfl rfl rfl) ?_
    refine ol_nil ?_
    refine spk 42 [(2,_),(3,_),(5,_),(6,_),(7,_),(8,_),(13,_)] [(2,_),(3,_),(5,_)] rfl rfl rfl ?_
    refine code_block ?_
    refine code_seq ?_
    refine code_ops _ rfl ?_
    refine ol_pure rfl rfl rfl (pure_eql rfl rfl rfl) ?_
    refine ol_pure rfl rfl rfl (pure_assign rfl rfl) ?_
    refine ol_nil ?_
    refine spk 42 [(2,_),(3,_),(5,_),(6,_),(7,_),(8,_),(13,_),(18,_)] [(2,_),(3,_),(5,_)] rfl rfl rfl ?_
    refine code_cond rfl (fun h2 => ?_) (fun h2 => ?_)
    ·try simp only [dq] at h2
     refine code_seq ?_
     refine code_ops _ rfl ?_
     refine ol_pure rfl rfl rfl (pure_build rfl pl25 ze25 rfl rfl rfl) ?_
     refine ol_step rfl (step_store_box rfl rfl rfl sz25 rfl rfl rfl rfl (by decide) rfl rfl hM0) ?_
     refine ol_nil ?_
     refine spk 42 [(2,_)] [(2,_)] rfl rfl rfl ?_
     refine code_ret ?_
     refine blockQ_ret ?_
     refine blockQ_ret ?_
     refine seqQ_ret ?_
     refine loopM_ret ?_
     refine blockQ_ret ?_
     refine seqQ_ret ?_
     refine endC_ret rfl ?_
     first | (rw [seqN_none (i := i) (by omega) (by omega)]; rfl) | (rw [seqN_some (fun j hj => hL1_1 j (by omega))]; rw [show seqL l = seqL (l.take i) by rw [List.take_of_length_le (by omega)]]; first | (rw [seqE_0 (by omega)]; rfl) | (rw [seqE_1 (by omega)]; rfl) | (rw [seqE_2 (by omega) (by omega), rx_mk]; rfl))
    ·try simp only [dq] at h2
     refine code_seq ?_
     refine code_ops _ rfl ?_
     refine ol_pure rfl rfl rfl (pure_eql rfl rfl rfl) ?_
     refine ol_pure rfl rfl rfl (pure_assign rfl rfl) ?_
     refine ol_nil ?_
     refine spk 42 [(2,_),(3,_),(5,_),(6,_),(7,_),(8,_),(13,_),(21,_)] [(2,_),(3,_),(5,_)] rfl rfl rfl ?_
     refine code_cond rfl (fun h3 => ?_) (fun h3 => ?_)
     ·try simp only [dq] at h3
      refine code_skip ?_
      refine blockQ_normal ?_
      refine blockQ_normal ?_
      refine spk 42 [(2,_),(3,_),(6,_),(7,_),(8,_)] [(2,_),(3,_)] rfl rfl rfl ?_
      refine code_ops _ rfl ?_
      refine ol_pure rfl rfl rfl (pure_addi rfl rfl rfl (by omega)) ?_
      refine ol_pure rfl rfl rfl (pure_move rfl rfl) ?_
      refine ol_nil ?_
      refine loop_next (n := 42) (l := [(2, _), (3, _), (6, _), (7, _), (8, _)]) (o' := [(2, _), (3, _)]) rfl ⟨rfl, rfl, rfl, rfl, rfl, trivial⟩ ⟨rfl, rfl, trivial⟩ ?_
      exact ⟨_, ⟨i + 1, rfl, by omega, all_step hL1_1 (by omega), by rw [seqL_succ (by omega)]; first | (rw [seqF_1 (by omega), List.append_nil]; rfl) | (rw [seqF_3 (by omega), List.map_append]; rfl) | (rw [seqF_x (by omega) (by omega), List.map_append]; rfl)⟩, by omega⟩
     ·try simp only [dq] at h3
      refine code_seq ?_
      refine code_ops _ rfl ?_
      refine ol_pure rfl rfl rfl (pure_eql rfl rfl rfl) ?_
      refine ol_pure rfl rfl rfl (pure_assign rfl rfl) ?_
      refine ol_nil ?_
      refine spk 42 [(2,_),(3,_),(5,_),(6,_),(7,_),(8,_),(23,_)] [(2,_),(3,_),(5,_)] rfl rfl rfl ?_
      refine code_cond rfl (fun h4 => ?_) (fun h4 => ?_)
      ·try simp only [dq] at h4
       have hr := hroom (by omega)
       refine code_ops _ rfl ?_
       refine ol_pure rfl rfl rfl (pure_move rfl rfl) ?_
       refine ol_pure rfl rfl rfl (pure_field_box rfl fd25_2 rfl rfl) ?_
       refine ol_pure rfl rfl rfl (pure_load_box rfl ag23 rfl rfl rfl) ?_
       refine ol_step rfl (step_append rfl rfl rfl rfl Tryz.underlying23 el25 rfl rfl hM0 (src_avs (l := (l.getD i default).kids) rfl) (by first | (simp only [ll]; omega) | omega) (by first | (simp only [ll]; omega) | omega)) ?_
       refine ol_pure rfl rfl rfl (pure_assign rfl rfl) ?_
       refine ol_nil ?_
       refine blockQ_normal ?_
       refine blockQ_normal ?_
       refine spk 42 [(2,_),(3,_),(6,_),(7,_),(8,_)] [(2,_),(3,_)] rfl rfl rfl ?_
       refine code_ops _ rfl ?_
       refine ol_pure rfl rfl rfl (pure_addi rfl rfl rfl (by omega)) ?_
       refine ol_pure rfl rfl rfl (pure_move rfl rfl) ?_
       refine ol_nil ?_
       refine loop_next (n := 42) (l := [(2, _), (3, _), (6, _), (7, _), (8, _)]) (o' := [(2, _), (3, _)]) rfl ⟨rfl, rfl, rfl, rfl, rfl, trivial⟩ ⟨rfl, rfl, trivial⟩ ?_
       exact ⟨_, ⟨i + 1, rfl, by omega, all_step hL1_1 (by omega), by rw [seqL_succ (by omega)]; first | (rw [seqF_1 (by omega), List.append_nil]; rfl) | (rw [seqF_3 (by omega), List.map_append]; rfl) | (rw [seqF_x (by omega) (by omega), List.map_append]; rfl)⟩, by omega⟩
      ·try simp only [dq] at h4
       have hr := hroom (by omega)
       refine code_ops _ rfl ?_
       refine ol_pure rfl rfl rfl (pure_move rfl rfl) ?_
       refine ol_pure rfl rfl rfl (pure_load_box_agg rfl ag25 sz25 rfl rfl rfl rfl) ?_
       refine ol_pure rfl rfl rfl (pure_lit rfl Tryz.underlying23 el25 rfl rfl rfl rfl hM0) ?_
       refine ol_step rfl (step_append rfl rfl rfl rfl Tryz.underlying23 el25 rfl rfl hM0 (src_pl rfl (one_len (by rfl))) (by first | (simp only [ll]; omega) | omega) (by first | (simp only [ll]; omega) | omega)) ?_
       refine ol_pure rfl rfl rfl (pure_assign rfl rfl) ?_
       refine ol_nil ?_
       refine blockQ_normal ?_
       refine blockQ_normal ?_
       refine spk 42 [(2,_),(3,_),(6,_),(7,_),(8,_)] [(2,_),(3,_)] rfl rfl rfl ?_
       refine code_ops _ rfl ?_
       refine ol_pure rfl rfl rfl (pure_addi rfl rfl rfl (by omega)) ?_
       refine ol_pure rfl rfl rfl (pure_move rfl rfl) ?_
       refine ol_nil ?_
       refine loop_next (n := 42) (l := [(2, _), (3, _), (6, _), (7, _), (8, _)]) (o' := [(2, _), (3, _)]) rfl ⟨rfl, rfl, rfl, rfl, rfl, trivial⟩ ⟨rfl, rfl, trivial⟩ ?_
       exact ⟨_, ⟨i + 1, rfl, by omega, all_step hL1_1 (by omega), by rw [seqL_succ (by omega)]; first | (rw [seqF_1 (by omega), List.append_nil]; rfl) | (rw [seqF_3 (by omega), List.map_append]; rfl) | (rw [seqF_x (by omega) (by omega), List.map_append]; rfl)⟩, by omega⟩
   ·try simp only [dq] at h1
    refine code_exit ?_
    refine seqQ_exit ?_
    refine loopM_exit ?_
    refine blockQ_same ?_
    refine spk 42 [(2,_),(3,_)] [(2,_),(3,_)] rfl rfl rfl ?_
    refine code_seq ?_
    refine code_seq ?_
    refine code_ops _ rfl ?_
    refine ol_pure rfl rfl rfl (pure_move rfl rfl) ?_
    refine ol_pure rfl rfl rfl (pure_lenm rfl Tryz.underlying23 rfl) ?_
    refine ol_nil ?_
    refine spk 42 [(2,_),(3,_),(31,_)] [(2,_),(3,_)] rfl rfl rfl ?_
    refine code_block ?_
    refine code_seq ?_
    refine code_ops _ rfl ?_
    refine ol_pure rfl rfl rfl (pure_eql rfl rfl rfl) ?_
    refine ol_pure rfl rfl rfl (pure_assign rfl rfl) ?_
    refine ol_nil ?_
    refine spk 42 [(2,_),(3,_),(31,_),(32,_)] [(2,_),(3,_)] rfl rfl rfl ?_
    refine code_cond rfl (fun h5 => ?_) (fun h5 => ?_)
    ·try simp only [dq] at h5
     refine code_seq ?_
     refine code_ops _ rfl ?_
     refine ol_pure rfl rfl rfl (pure_build rfl pl25 ze25 rfl rfl rfl) ?_
     refine ol_step rfl (step_store_box rfl rfl rfl sz25 rfl rfl rfl rfl (by decide) rfl rfl hM0) ?_
     refine ol_nil ?_
     refine spk 42 [(2,_)] [(2,_)] rfl rfl rfl ?_
     refine code_ret ?_
     refine blockQ_ret ?_
     refine seqQ_ret ?_
     refine endC_ret rfl ?_
     first | (rw [seqN_none (i := i) (by omega) (by omega)]; rfl) | (rw [seqN_some (fun j hj => hL1_1 j (by omega))]; rw [show seqL l = seqL (l.take i) by rw [List.take_of_length_le (by omega)]]; first | (rw [seqE_0 (by omega)]; rfl) | (rw [seqE_1 (by omega)]; rfl) | (rw [seqE_2 (by omega) (by omega), rx_mk]; rfl))
    ·try simp only [dq] at h5
     refine code_seq ?_
     refine code_ops _ rfl ?_
     refine ol_pure rfl rfl rfl (pure_eql rfl rfl rfl) ?_
     refine ol_pure rfl rfl rfl (pure_assign rfl rfl) ?_
     refine ol_nil ?_
     refine spk 42 [(2,_),(3,_),(35,_)] [(2,_),(3,_)] rfl rfl rfl ?_
     refine code_cond rfl (fun h6 => ?_) (fun h6 => ?_)
     ·try simp only [dq] at h6
      refine code_seq ?_
      refine code_ops _ rfl ?_
      refine ol_pure rfl rfl rfl (pure_move rfl rfl) ?_
      refine ol_pure rfl rfl rfl (pure_index_own rfl Tryz.underlying23 sz25 rfl rfl rfl (by first | (simp only [ll]; omega) | omega)) ?_
      refine ol_pure rfl rfl rfl (pure_load_pel_agg rfl ag25 sz25 rfl rfl sz25 (mget (by first | (simp only [ll]; omega) | omega))) ?_
      refine ol_step rfl (step_store_box rfl rfl rfl sz25 rfl rfl rfl rfl (by decide) rfl rfl hM0) ?_
      refine ol_nil ?_
      refine spk 42 [(2,_)] [(2,_)] rfl rfl rfl ?_
      refine code_ret ?_
      refine blockQ_ret ?_
      refine seqQ_ret ?_
      refine endC_ret rfl ?_
      first | (rw [seqN_none (i := i) (by omega) (by omega)]; rfl) | (rw [seqN_some (fun j hj => hL1_1 j (by omega))]; rw [show seqL l = seqL (l.take i) by rw [List.take_of_length_le (by omega)]]; first | (rw [seqE_0 (by omega)]; rfl) | (rw [seqE_1 (by omega)]; rfl) | (rw [seqE_2 (by omega) (by omega), rx_mk]; rfl))
     ·try simp only [dq] at h6
      refine code_skip ?_
      refine blockQ_normal ?_
      refine spk 42 [(2,_),(3,_)] [(2,_),(3,_)] rfl rfl rfl ?_
      refine code_seq ?_
      refine code_frz 42 [(2, _), (3, _)] [(2, _)] hM0 rfl ⟨.inl rfl, .inr ⟨_, _, rfl, rfl, rfl⟩, trivial⟩ ⟨rfl, trivial⟩ ?_
      refine code_ops _ rfl ?_
      refine ol_pure rfl rfl rfl (pure_move rfl rfl) ?_
      refine ol_pure rfl rfl rfl (pure_build rfl pl25 ze25 rfl rfl rfl) ?_
      refine ol_step rfl (step_store_box rfl rfl rfl sz25 rfl rfl rfl rfl (by decide) rfl rfl hM0) ?_
      refine ol_nil ?_
      refine spk 42 [(2,_)] [(2,_)] rfl rfl rfl ?_
      refine code_ret ?_
      refine endC_ret rfl ?_
      first | (rw [seqN_none (i := i) (by omega) (by omega)]; rfl) | (rw [seqN_some (fun j hj => hL1_1 j (by omega))]; rw [show seqL l = seqL (l.take i) by rw [List.take_of_length_le (by omega)]]; first | (rw [seqE_0 (by omega)]; rfl) | (rw [seqE_1 (by omega)]; rfl) | (rw [seqE_2 (by omega) (by omega), rx_mk]; rfl))
end Go.Proofs.YtgdehkimfmfofaaGreat

namespace Go.Proofs.YtgdehkimfmfofaaGreat
open Go.Am Go.Wc
set_option linter.unusedVariables false
set_option linter.unusedSimpArgs false

theorem fn57 : Fn1 Tryz.prog 57 Tryz.f57.ntmps 4 (Tryz.f57.body.getD .skip) := ⟨Tryz.f57, Tryz.func57, rfl, rfl, rfl, by kernel_rfl⟩
set_option maxRecDepth 100000 in
set_option maxHeartbeats 1000000 in
theorem around_call {n most : Int} (hn : I64 n) (hm : 0 < most) : CallF Tryz.prog 57 [int n, int most] (.p (int (around n most))) := by
  obtain ⟨hn1, hn2⟩ := hn
  refine callF_of_code fn57 (Nat.le_of_ble_eq_true rfl) fun w0 M0 hM0 => ?_
  refine code_seq ?_
  refine code_ops _ rfl ?_
  refine ol_pure rfl rfl rfl (pure_assign rfl rfl) ?_
  refine ol_nil ?_
  refine spk 13 [(0,_),(1,_)] [] rfl rfl rfl ?_
  refine code_seq ?_
  refine code_seq ?_
  refine code_ops _ rfl ?_
  refine ol_pure rfl rfl rfl (pure_move rfl rfl) ?_
  refine ol_pure rfl rfl rfl (pure_lss rfl rfl rfl) ?_
  refine ol_nil ?_
  refine spk 13 [(0,_),(1,_),(6,_)] [] rfl rfl rfl ?_
  refine code_cond rfl (fun h1 => ?_) (fun h1 => ?_)
  ·try simp only [dq] at h1
   refine code_ops _ rfl ?_
   refine ol_pure rfl rfl rfl (pure_move rfl rfl) ?_
   refine ol_pure rfl rfl rfl (pure_addi rfl rfl rfl (by omega)) ?_
   refine ol_pure rfl rfl rfl (pure_neg rfl rfl (by omega)) ?_
   refine ol_pure rfl rfl rfl (pure_assign rfl rfl) ?_
   refine ol_nil ?_
   refine spk 13 [(0,_),(1,_)] [] rfl rfl rfl ?_
   refine code_seq ?_
   refine code_ops _ rfl ?_
   refine ol_pure rfl rfl rfl (pure_move rfl rfl) ?_
   refine ol_pure rfl rfl rfl (pure_move rfl rfl) ?_
   refine ol_pure rfl rfl rfl (pure_remn rfl rfl rfl (by omega)) ?_
   refine ol_pure rfl rfl rfl (pure_assign rfl rfl) ?_
   refine ol_nil ?_
   refine spk 13 [(4,_)] [] rfl rfl rfl ?_
   refine code_ret ?_
   refine end_ret rfl ?_
   unfold around; first | rw [if_pos (by assumption)] | rw [if_neg (by assumption)]
  ·try simp only [dq] at h1
   refine code_skip ?_
   refine spk 13 [(0,_),(1,_)] [] rfl rfl rfl ?_
   refine code_seq ?_
   refine code_ops _ rfl ?_
   refine ol_pure rfl rfl rfl (pure_move rfl rfl) ?_
   refine ol_pure rfl rfl rfl (pure_move rfl rfl) ?_
   refine ol_pure rfl rfl rfl (pure_remn rfl rfl rfl (by omega)) ?_
   refine ol_pure rfl rfl rfl (pure_assign rfl rfl) ?_
   refine ol_nil ?_
   refine spk 13 [(4,_)] [] rfl rfl rfl ?_
   refine code_ret ?_
   refine end_ret rfl ?_
   unfold around; first | rw [if_pos (by assumption)] | rw [if_neg (by assumption)]
end Go.Proofs.YtgdehkimfmfofaaGreat

