/-
  Contracts: the reference's accepts.
-/
import Derived.Test.YtgdehkimfmfofaaGreatJ23
import Derived.Test.YtgdehkimfmfofaaGreatJ21
set_option linter.unusedVariables false
set_option linter.unusedSimpArgs false
namespace Go.Proofs.YtgdehkimfmfofaaGreat
open Go.Am Go.Wb
set_option linter.unusedVariables false
set_option linter.unusedSimpArgs false

theorem fn18 : Fn1 Tryz.prog 18 Tryz.f18.ntmps 4 (Tryz.f18.body.getD .skip) := ⟨Tryz.f18, Tryz.func18, rfl, rfl, rfl, by kernel_rfl⟩
set_option maxRecDepth 100000 in
set_option maxHeartbeats 1000000 in
theorem same_call {a b : Rx} (ha : a.size ≤ 1099511627776) (hb : b.size ≤ 1099511627776) : CallF Tryz.prog 18 [rx a, rx b] (.p (bool (decide (cmpR a b = 0)))) := by
  refine callF_of_code fn18 (Nat.le_of_ble_eq_true rfl) fun w0 M0 hM0 => ?_
  refine code_seq ?_
  refine code_ops _ rfl ?_
  refine ol_pure rfl rfl rfl (pure_box rfl rfl rfl hM0) ?_
  refine ol_pure rfl rfl rfl (pure_box rfl rfl rfl hM0) ?_
  refine ol_pure rfl rfl rfl (pure_assign rfl rfl) ?_
  refine ol_nil ?_
  refine spk 9 [(2,_),(3,_)] [] rfl rfl rfl ?_
  refine code_seq ?_
  refine code_ops _ rfl ?_
  refine ol_pure rfl rfl rfl (pure_load_agg rfl ag25 sz25 rfl (Nat.le_of_ble_eq_true rfl)) ?_
  refine ol_pure rfl rfl rfl (pure_load_agg rfl ag25 sz25 rfl (Nat.le_of_ble_eq_true rfl)) ?_
  refine ol_pure rfl rfl rfl (pure_call rfl rfl rfl (rcompare_call _ _ _ ha (Nat.le_refl _) hb) hM0) ?_
  refine ol_pure rfl rfl rfl (pure_eql rfl rfl rfl) ?_
  refine ol_pure rfl rfl rfl (pure_assign rfl rfl) ?_
  refine ol_nil ?_
  refine spk 9 [(4,_)] [] rfl rfl rfl ?_
  refine code_ret ?_
  refine end_ret rfl ?_
  rfl

end Go.Proofs.YtgdehkimfmfofaaGreat

namespace Go.Proofs.YtgdehkimfmfofaaGreat
open Go.Am Go.Wb
set_option linter.unusedVariables false
set_option linter.unusedSimpArgs false

theorem fn73 : Fn1 Tryz.prog 73 Tryz.f73.ntmps 4 (Tryz.f73.body.getD .skip) := ⟨Tryz.f73, Tryz.func73, rfl, rfl, rfl, by kernel_rfl⟩
set_option maxRecDepth 100000 in
set_option maxHeartbeats 1000000 in
theorem idxR_call {l : List Rx} {p : Rx → Bool} {g : FuncId} (hl : l.length ≤ 1099511627776) (hf : ∀ x ∈ l, CallF Tryz.prog g [rx x] (.p (bool (p x)))) : CallF Tryz.prog 73 [rxs l, .clo g []] (.p (int (idxF p l))) := by
  refine callF_of_code fn73 (Nat.le_of_ble_eq_true rfl) fun w0 M0 hM0 => ?_
  refine code_seq ?_
  refine code_ops _ rfl ?_
  refine ol_pure rfl rfl rfl (pure_assign rfl rfl) ?_
  refine ol_nil ?_
  refine spk 19 [(0,_),(1,_)] [] rfl rfl rfl ?_
  refine code_seq ?_
  refine code_seq ?_
  refine code_ops _ rfl ?_
  refine ol_pure rfl rfl rfl (pure_move rfl rfl) ?_
  refine ol_pure rfl rfl rfl (pure_lenm rfl Tryz.underlying23 rfl) ?_
  refine ol_pure rfl rfl rfl (pure_move rfl rfl) ?_
  refine ol_nil ?_
  refine spk 19 [(0,_),(1,_),(7,_),(8,_)] [] rfl rfl rfl ?_
  refine code_block ?_
  refine code_loopM (fun zm zs => ∃ k : Nat, zm = l.length - k ∧ (k ≤ l.length) ∧ (∀ j, j < k → p (l.getD j default) = false) ∧ zs = ⟨19, [(0, .v .mx (rxs l)), (1, .v .mx (.clo g [])), (7, .v .pl (int l.length)), (8, .v .pl (int k))], []⟩) (loop_init (n := 19) (l := [(0, _), (1, _), (7, _), (8, _)]) (o' := []) rfl ⟨rfl, rfl, rfl, rfl, trivial⟩ trivial ?_) ?_
  ·exact ⟨_, 0, rfl, Nat.zero_le _, fun j hj => absurd hj (by omega), rfl⟩
  ·rintro zm zs ⟨k, rfl, hL1_0, hL1_1, rfl⟩
   refine code_seq ?_
   refine code_ops _ rfl ?_
   refine ol_pure rfl rfl rfl (pure_lss rfl rfl rfl) ?_
   refine ol_nil ?_
   refine spk 19 [(0,_),(1,_),(7,_),(8,_),(9,_)] [] rfl rfl rfl ?_
   refine code_seq ?_
   refine code_cond rfl (fun h1 => ?_) (fun h1 => ?_)
   ·try simp only [dq] at h1
    refine code_skip ?_
    refine spk 19 [(0,_),(1,_),(7,_),(8,_)] [] rfl rfl rfl ?_
    refine code_seq ?_
    refine code_block ?_
    refine code_seq ?_
    refine code_ops _ rfl ?_
    refine ol_pure rfl rfl rfl (pure_move rfl rfl) ?_
    refine ol_pure rfl rfl rfl (pure_assign rfl rfl) ?_
    refine ol_nil ?_
    refine spk 19 [(0,_),(1,_),(5,_),(7,_),(8,_)] [] rfl rfl rfl ?_
    refine code_seq ?_
    refine code_ops _ rfl ?_
    refine ol_pure rfl rfl rfl (pure_move rfl rfl) ?_
    refine ol_pure rfl rfl rfl (pure_move rfl rfl) ?_
    refine ol_pure rfl rfl rfl (pure_move rfl rfl) ?_
    first | refine ol_pure rfl rfl rfl (pure_indexn rfl Tryz.underlying23 sz25 rfl rfl (by omega) (fun _ => rfl)) ?_ | refine ol_pure rfl rfl rfl (pure_indexm rfl Tryz.underlying23 sz25 rfl rfl (by omega) (fun _ => rfl)) ?_
    refine ol_pure rfl rfl rfl (pure_load_agg rfl ag25 sz25 rfl (Nat.le_of_ble_eq_true rfl)) ?_
    refine ol_pure rfl rfl rfl (pure_call rfl rfl rfl (hf _ (kid_mem (by omega))) hM0) ?_
    refine ol_nil ?_
    refine spk 19 [(0,_),(1,_),(5,_),(7,_),(8,_),(16,_)] [] rfl rfl rfl ?_
    refine code_cond rfl (fun h2 => ?_) (fun h2 => ?_)
    ·try simp only [dq] at h2
     refine code_seq ?_
     refine code_ops _ rfl ?_
     refine ol_pure rfl rfl rfl (pure_move rfl rfl) ?_
     refine ol_pure rfl rfl rfl (pure_assign rfl rfl) ?_
     refine ol_nil ?_
     refine spk 19 [(4,_)] [] rfl rfl rfl ?_
     refine code_ret ?_
     refine blockQ_ret ?_
     refine seqQ_ret ?_
     refine loopM_ret ?_
     refine blockQ_ret ?_
     refine seqQ_ret ?_
     refine end_ret rfl ?_
     rw [← idxF_hit (p := p) (l := l) (k := k) (by omega) hL1_1 (by simp_all)]
    ·try simp only [dq] at h2
     refine code_skip ?_
     refine blockQ_normal ?_
     refine spk 19 [(0,_),(1,_),(7,_),(8,_)] [] rfl rfl rfl ?_
     refine code_ops _ rfl ?_
     refine ol_pure rfl rfl rfl (pure_addi rfl rfl rfl (by omega)) ?_
     refine ol_pure rfl rfl rfl (pure_move rfl rfl) ?_
     refine ol_nil ?_
     refine loop_next (n := 19) (l := [(0, _), (1, _), (7, _), (8, _)]) (o' := []) rfl ⟨rfl, rfl, rfl, rfl, trivial⟩ trivial ?_
     exact ⟨_, ⟨k + 1, rfl, by omega, all_step hL1_1 (by simp_all), rfl⟩, by omega⟩
   ·try simp only [dq] at h1
    refine code_exit ?_
    refine seqQ_exit ?_
    refine loopM_exit ?_
    refine blockQ_same ?_
    refine spk 19 [] [] rfl rfl rfl ?_
    refine code_seq ?_
    refine code_ops _ rfl ?_
    refine ol_pure rfl rfl rfl (pure_assign rfl rfl) ?_
    refine ol_nil ?_
    refine spk 19 [(4,_)] [] rfl rfl rfl ?_
    refine code_ret ?_
    refine end_ret rfl ?_
    rw [← idxF_none (p := p) (l := l) (fun j hj => hL1_1 j (by omega))]

theorem fn45 : Fn1 Tryz.prog 45 Tryz.f45.ntmps 4 (Tryz.f45.body.getD .skip) := ⟨Tryz.f45, Tryz.func45, rfl, rfl, rfl, by kernel_rfl⟩
set_option maxRecDepth 100000 in
set_option maxHeartbeats 1000000 in
theorem hasR_call {l : List Rx} {p : Rx → Bool} {g : FuncId} (hl : l.length ≤ 1099511627776) (hf : ∀ x ∈ l, CallF Tryz.prog g [rx x] (.p (bool (p x)))) : CallF Tryz.prog 45 [rxs l, .clo g []] (.p (bool (l.any p))) := by
  refine callF_of_code fn45 (Nat.le_of_ble_eq_true rfl) fun w0 M0 hM0 => ?_
  refine code_seq ?_
  refine code_ops _ rfl ?_
  refine ol_pure rfl rfl rfl (pure_assign rfl rfl) ?_
  refine ol_nil ?_
  refine spk 9 [(0,_),(1,_)] [] rfl rfl rfl ?_
  refine code_seq ?_
  refine code_ops _ rfl ?_
  refine ol_pure rfl rfl rfl (pure_move rfl rfl) ?_
  refine ol_pure rfl rfl rfl (pure_move rfl rfl) ?_
  refine ol_pure rfl rfl rfl (pure_call rfl rfl rfl (idxR_call hl hf) hM0) ?_
  refine ol_pure rfl rfl rfl (pure_geq rfl rfl rfl) ?_
  refine ol_pure rfl rfl rfl (pure_assign rfl rfl) ?_
  refine ol_nil ?_
  refine spk 9 [(4,_)] [] rfl rfl rfl ?_
  refine code_ret ?_
  refine end_ret rfl ?_
  rw [idxF_ge]
end Go.Proofs.YtgdehkimfmfofaaGreat

namespace Go.Proofs.YtgdehkimfmfofaaGreat
open Go.Am Go.Wb
set_option linter.unusedVariables false
set_option linter.unusedSimpArgs false

end Go.Proofs.YtgdehkimfmfofaaGreat

