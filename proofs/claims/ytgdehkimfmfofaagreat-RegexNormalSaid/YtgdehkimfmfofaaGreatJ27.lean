/-
  Contracts: sorting integers, sorting and reversing expressions.
-/
import Derived.Test.YtgdehkimfmfofaaGreatJ21
import Derived.Test.YtgdehkimfmfofaaGreatJ11
import Derived.Test.YtgdehkimfmfofaaGreatJ14
import Derived.Test.YtgdehkimfmfofaaGreatJ15
import Derived.Test.YtgdehkimfmfofaaGreatJ16
import Derived.Test.YtgdehkimfmfofaaGreatJ26
import Derived.Test.YtgdehkimfmfofaaGreatJ17
set_option linter.unusedVariables false
set_option linter.unusedSimpArgs false
namespace Go.Proofs.YtgdehkimfmfofaaGreat
open Go.Am Go.Wb
set_option linter.unusedVariables false
set_option linter.unusedSimpArgs false

theorem fn113 : Fn1 Tryz.prog 113 Tryz.f113.ntmps 2 (Tryz.f113.body.getD .skip) := ⟨Tryz.f113, Tryz.func113, rfl, rfl, rfl, by kernel_rfl⟩
set_option maxRecDepth 100000 in
set_option maxHeartbeats 4000000 in
theorem compact_call {l : List Int} (hl : l.length ≤ 1099511627776) : CallO Tryz.prog 113 [.own 0] [(0, .arr 3 (l.map int))] (.own 0) [(0, .arr 3 ((cpt (fun x y => decide (x = y)) l).map int))] := by
  refine callO_of_code fn113 (Nat.le_of_ble_eq_true rfl) fun w0 M0 hM0 => ?_
  refine code_seq ?_
  refine code_ops _ rfl ?_
  refine ol_pure rfl rfl rfl (pure_assign rfl rfl) ?_
  refine ol_nil ?_
  refine spk 61 [(0,_)] [(0,_)] rfl rfl rfl ?_
  refine code_seq ?_
  refine code_seq ?_
  refine code_ops _ rfl ?_
  refine ol_pure rfl rfl rfl (pure_move rfl rfl) ?_
  refine ol_pure rfl rfl rfl (pure_lenm rfl Tryz.underlying22 rfl) ?_
  refine ol_pure rfl rfl rfl (pure_lss rfl rfl rfl) ?_
  refine ol_nil ?_
  refine spk 61 [(0,_),(8,_)] [(0,_)] rfl rfl rfl ?_
  refine code_cond rfl (fun h1 => ?_) (fun h1 => ?_)
  ·try simp only [dq] at h1
   refine code_seq ?_
   refine code_ops _ rfl ?_
   refine ol_pure rfl rfl rfl (pure_move rfl rfl) ?_
   refine ol_pure rfl rfl rfl (pure_assign rfl rfl) ?_
   refine ol_nil ?_
   refine spk 61 [(2,_)] [(0,_)] rfl rfl rfl ?_
   refine code_ret ?_
   refine seqQ_ret ?_
   refine endO_ret (o1 := [(0, _)]) rfl ⟨rfl, trivial⟩ ?_
   rw [cpt_short (by omega)]; exact ⟨rfl, rfl⟩
  ·try simp only [dq] at h1
   refine code_skip ?_
   refine spk 61 [(0,_)] [(0,_)] rfl rfl rfl ?_
   refine code_seq ?_
   refine code_seq ?_
   refine code_ops _ rfl ?_
   refine ol_pure rfl rfl rfl (pure_assign rfl rfl) ?_
   refine ol_nil ?_
   refine spk 61 [(0,_),(3,_)] [(0,_)] rfl rfl rfl ?_
   refine code_block ?_
   refine code_loopM (fun zm zs => ∃ q : Nat, zm = l.length - q ∧ (1 ≤ q) ∧ (q ≤ l.length) ∧ (cptN (fun x y => decide (x = y)) l q = l.take q) ∧ zs = ⟨61, [(0, .own 0), (3, .v .pl (int q))], [(0, .arr 3 (l.map int))]⟩) (loop_init (n := 61) (l := [(0, _), (3, _)]) (o' := [(0, _)]) rfl ⟨rfl, rfl, trivial⟩ ⟨rfl, trivial⟩ ?_) ?_
   ·exact ⟨_, 1, rfl, Nat.le_refl _, by omega, by rw [cptN_one, take_succ' (by omega)]; rfl, rfl⟩
   ·rintro zm zs ⟨q, rfl, hL1_0, hL1_1, hL1_2, rfl⟩
    have e0 : ((q : Int) - 1).toNat = q - 1 := by omega
    refine code_seq ?_
    refine code_seq ?_
    refine code_ops _ rfl ?_
    refine ol_pure rfl rfl rfl (pure_move rfl rfl) ?_
    refine ol_pure rfl rfl rfl (pure_move rfl rfl) ?_
    refine ol_pure rfl rfl rfl (pure_lenm rfl Tryz.underlying22 rfl) ?_
    refine ol_pure rfl rfl rfl (pure_lss rfl rfl rfl) ?_
    refine ol_nil ?_
    refine spk 61 [(0,_),(3,_),(13,_)] [(0,_)] rfl rfl rfl ?_
    refine code_cond rfl (fun h2 => ?_) (fun h2 => ?_)
    ·try simp only [dq] at h2
     refine code_skip ?_
     refine spk 61 [(0,_),(3,_)] [(0,_)] rfl rfl rfl ?_
     refine code_seq ?_
     refine code_block ?_
     refine code_seq ?_
     refine code_draw mixed (by kernel_rfl) _ rfl ?_
     refine dl_pure rfl rfl rfl (pure_move rfl rfl) ?_
     refine dl_pure rfl rfl rfl (pure_move rfl rfl) ?_
     refine dl_pure rfl rfl rfl (pure_index_own rfl Tryz.underlying22 sz3 rfl rfl rfl (by first | (simp only [ll]; omega) | omega)) ?_
     refine dl_pure rfl rfl rfl (pure_load_pel rfl ag3 rfl rfl (mget (by first | (simp only [ll]; omega) | omega)) rfl) ?_
     refine dl_pure rfl rfl rfl (pure_move rfl rfl) ?_
     refine dl_pure rfl rfl rfl (pure_move rfl rfl) ?_
     refine dl_pure rfl rfl rfl (pure_subi rfl rfl rfl (by omega)) ?_
     refine dl_pure rfl rfl rfl (pure_index_own rfl Tryz.underlying22 sz3 rfl rfl rfl (by first | (simp only [ll]; omega) | omega)) ?_
     refine dl_pure rfl rfl rfl (pure_load_pel rfl ag3 rfl rfl (mget (by first | (simp only [ll]; omega) | omega)) rfl) ?_
     refine dl_pure rfl rfl rfl (pure_eql rfl rfl rfl) ?_
     refine dl_nil ?_
     refine spk 61 [(0,_),(3,_),(25,_)] [(0,_)] rfl rfl rfl ?_
     refine code_cond rfl (fun h3 => ?_) (fun h3 => ?_)
     ·try simp only [dq] at h3
      refine code_seq ?_
      refine code_ops _ rfl ?_
      refine ol_pure rfl rfl rfl (pure_move rfl rfl) ?_
      refine ol_pure rfl rfl rfl (pure_move rfl rfl) ?_
      refine ol_pure rfl rfl rfl (pure_slice_ownl rfl Tryz.underlying22 sz3 rfl rfl rfl (by first | (simp only [ll]; omega) | omega)) ?_
      refine ol_pure rfl rfl rfl (pure_assign rfl rfl) ?_
      refine ol_nil ?_
      refine spk 61 [(0,_),(3,_),(4,_)] [(0,_)] rfl rfl rfl ?_
      refine code_seq ?_
      refine code_seq ?_
      refine code_ops _ rfl ?_
      refine ol_pure rfl rfl rfl (pure_assign rfl rfl) ?_
      refine ol_nil ?_
      refine spk 61 [(0,_),(3,_),(4,_),(5,_)] [(0,_)] rfl rfl rfl ?_
      refine code_block ?_
      refine code_loopM (fun zm zs => ∃ (ys : List Int) (k j : Nat), zm = l.length - q - j ∧ (1 ≤ j) ∧ (q + j ≤ l.length) ∧ (ys.length = l.length) ∧ (cptN (fun x y => decide (x = y)) l (q + j) = ys.take k) ∧ (k + 1 ≤ q + j) ∧ (∀ i, q + j ≤ i + 1 → ys.getD i default = l.getD i default) ∧ zs = ⟨61, [(0, .own 0), (3, .v .pl (int k)), (4, .vsl 0 q ((l.map int).length - q)), (5, .v .pl (int j))], [(0, .arr 3 (ys.map int))]⟩) (loop_init (n := 61) (l := [(0, _), (3, _), (4, _), (5, _)]) (o' := [(0, _)]) rfl ⟨rfl, rfl, rfl, rfl, trivial⟩ ⟨rfl, trivial⟩ ?_) ?_
      ·rw [e0] at h3
       exact ⟨_, l, q, 1, rfl, Nat.le_refl _, by omega, rfl, (cptN_dup (by omega) (decide_eq_true h3)).trans hL1_2, Nat.le_refl _, fun i _ => rfl, rfl⟩
      ·rintro zm zs ⟨ys, k, j, rfl, hL2_0, hL2_1, hL2_2, hL2_3, hL2_4, hL2_5, rfl⟩
       refine code_seq ?_
       refine code_seq ?_
       refine code_ops _ rfl ?_
       refine ol_pure rfl rfl rfl (pure_move rfl rfl) ?_
       refine ol_pure rfl rfl rfl (pure_move rfl rfl) ?_
       refine ol_pure rfl rfl rfl (pure_len_vsl rfl Tryz.underlying22 rfl rfl) ?_
       refine ol_pure rfl rfl rfl (pure_lss rfl rfl rfl) ?_
       refine ol_nil ?_
       refine spk 61 [(0,_),(3,_),(4,_),(5,_),(32,_)] [(0,_)] rfl rfl rfl ?_
       refine code_cond rfl (fun h4 => ?_) (fun h4 => ?_)
       ·try simp only [dq] at h4
        refine code_skip ?_
        refine spk 61 [(0,_),(3,_),(4,_),(5,_)] [(0,_)] rfl rfl rfl ?_
        refine code_seq ?_
        refine code_block ?_
        refine code_seq ?_
        refine code_draw mixed (by kernel_rfl) _ rfl ?_
        refine dl_pure rfl rfl rfl (pure_move rfl rfl) ?_
        refine dl_pure rfl rfl rfl (pure_move rfl rfl) ?_
        refine dl_pure rfl rfl rfl (pure_index_vsl rfl Tryz.underlying22 sz3 rfl rfl rfl (by first | (simp only [ll]; omega) | omega)) ?_
        refine dl_pure rfl rfl rfl (pure_load_pel rfl ag3 rfl rfl (mget (by first | (simp only [ll]; omega) | omega)) rfl) ?_
        refine dl_pure rfl rfl rfl (pure_move rfl rfl) ?_
        refine dl_pure rfl rfl rfl (pure_move rfl rfl) ?_
        refine dl_pure rfl rfl rfl (pure_subi rfl rfl rfl (by omega)) ?_
        refine dl_pure rfl rfl rfl (pure_index_vsl rfl Tryz.underlying22 sz3 rfl rfl rfl (by first | (simp only [ll]; omega) | omega)) ?_
        refine dl_pure rfl rfl rfl (pure_load_pel rfl ag3 rfl rfl (mget (by first | (simp only [ll]; omega) | omega)) rfl) ?_
        refine dl_pure rfl rfl rfl (pure_neq rfl rfl rfl) ?_
        refine dl_nil ?_
        refine spk 61 [(0,_),(3,_),(4,_),(5,_),(44,_)] [(0,_)] rfl rfl rfl ?_
        refine code_cond rfl (fun h5 => ?_) (fun h5 => ?_)
        ·try simp only [dq] at h5
         refine code_seq ?_
         refine code_ops _ rfl ?_
         refine ol_pure rfl rfl rfl (pure_move rfl rfl) ?_
         refine ol_pure rfl rfl rfl (pure_move rfl rfl) ?_
         refine ol_pure rfl rfl rfl (pure_move rfl rfl) ?_
         refine ol_pure rfl rfl rfl (pure_move rfl rfl) ?_
         refine ol_pure rfl rfl rfl (pure_index_vsl rfl Tryz.underlying22 sz3 rfl rfl rfl (by first | (simp only [ll]; omega) | omega)) ?_
         refine ol_pure rfl rfl rfl (pure_load_pel rfl ag3 rfl rfl (mget (by first | (simp only [ll]; omega) | omega)) rfl) ?_
         refine ol_pure rfl rfl rfl (pure_index_own rfl Tryz.underlying22 sz3 rfl rfl rfl (by first | (simp only [ll]; omega) | omega)) ?_
         refine ol_step rfl (step_store_pel rfl rfl rfl sz3 rfl rfl (mget (by first | (simp only [ll]; omega) | omega)) rfl rfl (.inl rfl) rfl (Nat.le_of_ble_eq_true rfl) hM0) ?_
         refine ol_nil ?_
         refine spk 61 [(0,_),(3,_),(4,_),(5,_)] [(0,_)] rfl rfl rfl ?_
         refine code_ops _ rfl ?_
         refine ol_pure rfl rfl rfl (pure_move rfl rfl) ?_
         refine ol_pure rfl rfl rfl (pure_addi rfl rfl rfl (by omega)) ?_
         refine ol_pure rfl rfl rfl (pure_assign rfl rfl) ?_
         refine ol_nil ?_
         refine blockQ_normal ?_
         refine spk 61 [(0,_),(3,_),(4,_),(5,_)] [(0,_)] rfl rfl rfl ?_
         refine code_ops _ rfl ?_
         refine ol_pure rfl rfl rfl (pure_move rfl rfl) ?_
         refine ol_pure rfl rfl rfl (pure_addi rfl rfl rfl (by omega)) ?_
         refine ol_pure rfl rfl rfl (pure_assign rfl rfl) ?_
         refine ol_nil ?_
         refine loop_next (n := 61) (l := [(0, _), (3, _), (4, _), (5, _)]) (o' := [(0, _)]) rfl ⟨rfl, rfl, rfl, rfl, trivial⟩ ⟨rfl, trivial⟩ ?_
         have e1 : ((j : Int) - 1).toNat = j - 1 := by omega
         rw [e1, hL2_5 (q + j) (by omega), hL2_5 (q + (j - 1)) (by omega)] at h5
         refine ⟨_, ⟨ys.set k (l.getD (q + j) default), k + 1, j + 1, rfl, by omega, by omega, by simpa using hL2_2, cpt_put (by omega) hL2_3 ?_, by omega, fun i hi => ?_, ?_⟩, by omega⟩
         · rw [show q + j - 1 = q + (j - 1) by omega]
           exact decide_eq_false h5
         · rw [getD_set_ne' (by omega)]; exact hL2_5 i (by omega)
         · rw [List.map_set, ← hL2_5 (q + j) (by omega)]; rfl
        ·try simp only [dq] at h5
         refine code_skip ?_
         refine blockQ_normal ?_
         refine spk 61 [(0,_),(3,_),(4,_),(5,_)] [(0,_)] rfl rfl rfl ?_
         refine code_ops _ rfl ?_
         refine ol_pure rfl rfl rfl (pure_move rfl rfl) ?_
         refine ol_pure rfl rfl rfl (pure_addi rfl rfl rfl (by omega)) ?_
         refine ol_pure rfl rfl rfl (pure_assign rfl rfl) ?_
         refine ol_nil ?_
         refine loop_next (n := 61) (l := [(0, _), (3, _), (4, _), (5, _)]) (o' := [(0, _)]) rfl ⟨rfl, rfl, rfl, rfl, trivial⟩ ⟨rfl, trivial⟩ ?_
         have e1 : ((j : Int) - 1).toNat = j - 1 := by omega
         rw [e1, hL2_5 (q + j) (by omega), hL2_5 (q + (j - 1)) (by omega)] at h5
         refine ⟨_, ⟨ys, k, j + 1, rfl, by omega, by omega, hL2_2, cpt_skip (by omega) hL2_3 ?_, by omega, fun i hi => hL2_5 i (by omega), rfl⟩, by omega⟩
         rw [show q + j - 1 = q + (j - 1) by omega]
         exact decide_eq_true h5
       ·try simp only [dq] at h4
        refine code_exit ?_
        refine seqQ_exit ?_
        refine loopM_exit ?_
        refine blockQ_same ?_
        refine spk 61 [(0,_),(3,_)] [(0,_)] rfl rfl rfl ?_
        refine code_seq ?_
        refine code_ops _ rfl ?_
        refine ol_pure rfl rfl rfl (pure_move rfl rfl) ?_
        refine ol_pure rfl rfl rfl (pure_move rfl rfl) ?_
        refine ol_pure rfl rfl rfl (pure_slice_ownl rfl Tryz.underlying22 sz3 rfl rfl rfl (by first | (simp only [ll]; omega) | omega)) ?_
        refine ol_step rfl (step_clear_vsl (zv := int 0) rfl rfl rfl Tryz.underlying22 sz3 rfl rfl ze3 (by decide) rfl rfl hM0) ?_
        refine ol_nil ?_
        refine spk 61 [(0,_),(3,_)] [(0,_)] rfl rfl rfl ?_
        refine code_seq ?_
        refine code_ops _ rfl ?_
        refine ol_pure rfl rfl rfl (pure_move rfl rfl) ?_
        refine ol_pure rfl rfl rfl (pure_move rfl rfl) ?_
        refine ol_pure rfl rfl rfl (pure_slice_own rfl Tryz.underlying22 sz3 rfl rfl rfl (by first | (simp only [ll]; omega) | omega)) ?_
        refine ol_trunc 59 rfl rfl hM0 rfl ?_
        refine ol_pure rfl rfl rfl (pure_assign rfl rfl) ?_
        refine ol_nil ?_
        refine spk 61 [(2,_)] [(0,_)] rfl rfl rfl ?_
        refine code_ret ?_
        refine blockQ_ret ?_
        refine seqQ_ret ?_
        refine loopM_ret ?_
        refine blockQ_ret ?_
        refine seqQ_ret ?_
        refine endO_ret (o1 := [(0, _)]) rfl ⟨rfl, trivial⟩ ?_
        refine ⟨rfl, ?_⟩
        rw [← cpt_fin (f := int) (k := k) (n := q + j) (by omega) (by omega) hL2_3]; rfl
     ·try simp only [dq] at h3
      refine code_skip ?_
      refine blockQ_normal ?_
      refine spk 61 [(0,_),(3,_)] [(0,_)] rfl rfl rfl ?_
      refine code_ops _ rfl ?_
      refine ol_pure rfl rfl rfl (pure_move rfl rfl) ?_
      refine ol_pure rfl rfl rfl (pure_addi rfl rfl rfl (by omega)) ?_
      refine ol_pure rfl rfl rfl (pure_assign rfl rfl) ?_
      refine ol_nil ?_
      refine loop_next (n := 61) (l := [(0, _), (3, _)]) (o' := [(0, _)]) rfl ⟨rfl, rfl, trivial⟩ ⟨rfl, trivial⟩ ?_
      rw [e0] at h3
      exact ⟨_, ⟨q + 1, rfl, by omega, by omega, cptN_take (by omega) hL1_2 (decide_eq_false h3), rfl⟩, by omega⟩
    ·try simp only [dq] at h2
     refine code_exit ?_
     refine seqQ_exit ?_
     refine loopM_exit ?_
     refine blockQ_same ?_
     refine spk 61 [(0,_)] [(0,_)] rfl rfl rfl ?_
     refine code_seq ?_
     refine code_ops _ rfl ?_
     refine ol_pure rfl rfl rfl (pure_move rfl rfl) ?_
     refine ol_pure rfl rfl rfl (pure_assign rfl rfl) ?_
     refine ol_nil ?_
     refine spk 61 [(2,_)] [(0,_)] rfl rfl rfl ?_
     refine code_ret ?_
     refine endO_ret (o1 := [(0, _)]) rfl ⟨rfl, trivial⟩ ?_
     rw [cpt_all (n := q) (by omega) hL1_2]; exact ⟨rfl, rfl⟩

theorem fn116 : Fn1 Tryz.prog 116 Tryz.f116.ntmps 4 (Tryz.f116.body.getD .skip) := ⟨Tryz.f116, Tryz.func116, rfl, rfl, rfl, by kernel_rfl⟩
set_option maxRecDepth 100000 in
set_option maxHeartbeats 4000000 in
theorem compactF_call {l : List Rx} {eq : Rx → Rx → Bool} {g : FuncId} (hl : l.length ≤ 1099511627776) (hf : ∀ x ∈ l, ∀ y ∈ l, CallF Tryz.prog g [rx x, rx y] (.p (bool (eq x y)))) :
    CallO Tryz.prog 116 [.own 0, .v .pl (.clo g [])] [(0, .arr 25 (l.map rx))] (.own 0) [(0, .arr 25 ((cpt eq l).map rx))] := by
  refine callO_of_code fn116 (Nat.le_of_ble_eq_true rfl) fun w0 M0 hM0 => ?_
  refine code_seq ?_
  refine code_ops _ rfl ?_
  refine ol_pure rfl rfl rfl (pure_assign rfl rfl) ?_
  refine ol_nil ?_
  refine spk 66 [(0,_),(1,_)] [(0,_)] rfl rfl rfl ?_
  refine code_seq ?_
  refine code_seq ?_
  refine code_ops _ rfl ?_
  refine ol_pure rfl rfl rfl (pure_move rfl rfl) ?_
  refine ol_pure rfl rfl rfl (pure_lenm rfl Tryz.underlying23 rfl) ?_
  refine ol_pure rfl rfl rfl (pure_lss rfl rfl rfl) ?_
  refine ol_nil ?_
  refine spk 66 [(0,_),(1,_),(10,_)] [(0,_)] rfl rfl rfl ?_
  refine code_cond rfl (fun h1 => ?_) (fun h1 => ?_)
  ·try simp only [dq] at h1
   refine code_seq ?_
   refine code_ops _ rfl ?_
   refine ol_pure rfl rfl rfl (pure_move rfl rfl) ?_
   refine ol_pure rfl rfl rfl (pure_assign rfl rfl) ?_
   refine ol_nil ?_
   refine spk 66 [(4,_)] [(0,_)] rfl rfl rfl ?_
   refine code_ret ?_
   refine seqQ_ret ?_
   refine endO_ret (o1 := [(0, _)]) rfl ⟨rfl, trivial⟩ ?_
   rw [cpt_short (by omega)]; exact ⟨rfl, rfl⟩
  ·try simp only [dq] at h1
   refine code_skip ?_
   refine spk 66 [(0,_),(1,_)] [(0,_)] rfl rfl rfl ?_
   refine code_seq ?_
   refine code_seq ?_
   refine code_ops _ rfl ?_
   refine ol_pure rfl rfl rfl (pure_assign rfl rfl) ?_
   refine ol_nil ?_
   refine spk 66 [(0,_),(1,_),(5,_)] [(0,_)] rfl rfl rfl ?_
   refine code_block ?_
   refine code_loopM (fun zm zs => ∃ q : Nat, zm = l.length - q ∧ (1 ≤ q) ∧ (q ≤ l.length) ∧ (cptN (eq) l q = l.take q) ∧ zs = ⟨66, [(0, .own 0), (1, .v .pl (.clo g [])), (5, .v .pl (int q))], [(0, .arr 25 (l.map rx))]⟩) (loop_init (n := 66) (l := [(0, _), (1, _), (5, _)]) (o' := [(0, _)]) rfl ⟨rfl, rfl, rfl, trivial⟩ ⟨rfl, trivial⟩ ?_) ?_
   ·exact ⟨_, 1, rfl, Nat.le_refl _, by omega, by rw [cptN_one, take_succ' (by omega)]; rfl, rfl⟩
   ·rintro zm zs ⟨q, rfl, hL1_0, hL1_1, hL1_2, rfl⟩
    have e0 : ((q : Int) - 1).toNat = q - 1 := by omega
    refine code_seq ?_
    refine code_seq ?_
    refine code_ops _ rfl ?_
    refine ol_pure rfl rfl rfl (pure_move rfl rfl) ?_
    refine ol_pure rfl rfl rfl (pure_move rfl rfl) ?_
    refine ol_pure rfl rfl rfl (pure_lenm rfl Tryz.underlying23 rfl) ?_
    refine ol_pure rfl rfl rfl (pure_lss rfl rfl rfl) ?_
    refine ol_nil ?_
    refine spk 66 [(0,_),(1,_),(5,_),(15,_)] [(0,_)] rfl rfl rfl ?_
    refine code_cond rfl (fun h2 => ?_) (fun h2 => ?_)
    ·try simp only [dq] at h2
     refine code_skip ?_
     refine spk 66 [(0,_),(1,_),(5,_)] [(0,_)] rfl rfl rfl ?_
     refine code_seq ?_
     refine code_block ?_
     refine code_seq ?_
     refine code_draw mixed (by kernel_rfl) _ rfl ?_
     refine dl_pure rfl rfl rfl (pure_move rfl rfl) ?_
     refine dl_pure rfl rfl rfl (pure_move rfl rfl) ?_
     refine dl_pure rfl rfl rfl (pure_move rfl rfl) ?_
     refine dl_pure rfl rfl rfl (pure_index_own rfl Tryz.underlying23 sz25 rfl rfl rfl (by first | (simp only [ll]; omega) | omega)) ?_
     refine dl_pure rfl rfl rfl (pure_load_pel_agg rfl ag25 sz25 rfl rfl sz25 (mget (by first | (simp only [ll]; omega) | omega))) ?_
     refine dl_pure rfl rfl rfl (pure_move rfl rfl) ?_
     refine dl_pure rfl rfl rfl (pure_move rfl rfl) ?_
     refine dpk 66 [(0,_),(1,_),(5,_),(18,_),(22,_),(23,_),(24,_)] [(0,_)] rfl rfl rfl ?_
     refine dl_pure rfl rfl rfl (pure_subi rfl rfl rfl (by omega)) ?_
     refine dl_pure rfl rfl rfl (pure_index_own rfl Tryz.underlying23 sz25 rfl rfl rfl (by first | (simp only [ll]; omega) | omega)) ?_
     refine dl_pure rfl rfl rfl (pure_load_pel_agg rfl ag25 sz25 rfl rfl sz25 (mget (by first | (simp only [ll]; omega) | omega))) ?_
     refine dl_pure rfl rfl rfl (pure_call rfl rfl rfl (hf _ (kid_mem (by omega)) _ (kid_mem (by omega))) hM0) ?_
     refine dl_nil ?_
     refine spk 66 [(0,_),(1,_),(5,_),(28,_)] [(0,_)] rfl rfl rfl ?_
     refine code_cond rfl (fun h3 => ?_) (fun h3 => ?_)
     ·try simp only [dq] at h3
      refine code_seq ?_
      refine code_ops _ rfl ?_
      refine ol_pure rfl rfl rfl (pure_move rfl rfl) ?_
      refine ol_pure rfl rfl rfl (pure_move rfl rfl) ?_
      refine ol_pure rfl rfl rfl (pure_slice_ownl rfl Tryz.underlying23 sz25 rfl rfl rfl (by first | (simp only [ll]; omega) | omega)) ?_
      refine ol_pure rfl rfl rfl (pure_assign rfl rfl) ?_
      refine ol_nil ?_
      refine spk 66 [(0,_),(1,_),(5,_),(6,_)] [(0,_)] rfl rfl rfl ?_
      refine code_seq ?_
      refine code_seq ?_
      refine code_ops _ rfl ?_
      refine ol_pure rfl rfl rfl (pure_assign rfl rfl) ?_
      refine ol_nil ?_
      refine spk 66 [(0,_),(1,_),(5,_),(6,_),(7,_)] [(0,_)] rfl rfl rfl ?_
      refine code_block ?_
      refine code_loopM (fun zm zs => ∃ (ys : List Rx) (k j : Nat), zm = l.length - q - j ∧ (1 ≤ j) ∧ (q + j ≤ l.length) ∧ (ys.length = l.length) ∧ (cptN (eq) l (q + j) = ys.take k) ∧ (k + 1 ≤ q + j) ∧ (∀ i, q + j ≤ i + 1 → ys.getD i default = l.getD i default) ∧ (∀ x ∈ ys, x ∈ l) ∧ zs = ⟨66, [(0, .own 0), (1, .v .pl (.clo g [])), (5, .v .pl (int k)), (6, .vsl 0 q ((l.map rx).length - q)), (7, .v .pl (int j))], [(0, .arr 25 (ys.map rx))]⟩) (loop_init (n := 66) (l := [(0, _), (1, _), (5, _), (6, _), (7, _)]) (o' := [(0, _)]) rfl ⟨rfl, rfl, rfl, rfl, rfl, trivial⟩ ⟨rfl, trivial⟩ ?_) ?_
      ·rw [e0] at h3
       exact ⟨_, l, q, 1, rfl, Nat.le_refl _, by omega, rfl, (cptN_dup (by omega) (h3)).trans hL1_2, Nat.le_refl _, fun i _ => rfl, fun x hx => hx, rfl⟩
      ·rintro zm zs ⟨ys, k, j, rfl, hL2_0, hL2_1, hL2_2, hL2_3, hL2_4, hL2_5, hL2_6, rfl⟩
       refine code_seq ?_
       refine code_seq ?_
       refine code_ops _ rfl ?_
       refine ol_pure rfl rfl rfl (pure_move rfl rfl) ?_
       refine ol_pure rfl rfl rfl (pure_move rfl rfl) ?_
       refine ol_pure rfl rfl rfl (pure_len_vsl rfl Tryz.underlying23 rfl rfl) ?_
       refine ol_pure rfl rfl rfl (pure_lss rfl rfl rfl) ?_
       refine ol_nil ?_
       refine spk 66 [(0,_),(1,_),(5,_),(6,_),(7,_),(35,_)] [(0,_)] rfl rfl rfl ?_
       refine code_cond rfl (fun h4 => ?_) (fun h4 => ?_)
       ·try simp only [dq] at h4
        refine code_skip ?_
        refine spk 66 [(0,_),(1,_),(5,_),(6,_),(7,_)] [(0,_)] rfl rfl rfl ?_
        refine code_seq ?_
        refine code_block ?_
        refine code_seq ?_
        refine code_draw mixed (by kernel_rfl) _ rfl ?_
        refine dl_pure rfl rfl rfl (pure_move rfl rfl) ?_
        refine dl_pure rfl rfl rfl (pure_move rfl rfl) ?_
        refine dl_pure rfl rfl rfl (pure_move rfl rfl) ?_
        refine dl_pure rfl rfl rfl (pure_index_vsl rfl Tryz.underlying23 sz25 rfl rfl rfl (by first | (simp only [ll]; omega) | omega)) ?_
        refine dl_pure rfl rfl rfl (pure_load_pel_agg rfl ag25 sz25 rfl rfl sz25 (mget (by first | (simp only [ll]; omega) | omega))) ?_
        refine dl_pure rfl rfl rfl (pure_move rfl rfl) ?_
        refine dl_pure rfl rfl rfl (pure_move rfl rfl) ?_
        refine dpk 66 [(0,_),(1,_),(5,_),(6,_),(7,_),(38,_),(42,_),(43,_),(44,_)] [(0,_)] rfl rfl rfl ?_
        refine dl_pure rfl rfl rfl (pure_subi rfl rfl rfl (by omega)) ?_
        refine dl_pure rfl rfl rfl (pure_index_vsl rfl Tryz.underlying23 sz25 rfl rfl rfl (by first | (simp only [ll]; omega) | omega)) ?_
        refine dl_pure rfl rfl rfl (pure_load_pel_agg rfl ag25 sz25 rfl rfl sz25 (mget (by first | (simp only [ll]; omega) | omega))) ?_
        refine dl_pure rfl rfl rfl (pure_call rfl rfl rfl (hf _ (hL2_6 _ (kid_mem (by omega))) _ (hL2_6 _ (kid_mem (by omega)))) hM0) ?_
        refine dl_pure rfl rfl rfl (pure_not rfl rfl) ?_
        refine dl_nil ?_
        refine spk 66 [(0,_),(1,_),(5,_),(6,_),(7,_),(49,_)] [(0,_)] rfl rfl rfl ?_
        refine code_cond rfl (fun h5 => ?_) (fun h5 => ?_)
        ·try simp only [dq] at h5
         refine code_seq ?_
         refine code_ops _ rfl ?_
         refine ol_pure rfl rfl rfl (pure_move rfl rfl) ?_
         refine ol_pure rfl rfl rfl (pure_move rfl rfl) ?_
         refine ol_pure rfl rfl rfl (pure_move rfl rfl) ?_
         refine ol_pure rfl rfl rfl (pure_move rfl rfl) ?_
         refine ol_pure rfl rfl rfl (pure_index_vsl rfl Tryz.underlying23 sz25 rfl rfl rfl (by first | (simp only [ll]; omega) | omega)) ?_
         refine ol_pure rfl rfl rfl (pure_load_pel_agg rfl ag25 sz25 rfl rfl sz25 (mget (by first | (simp only [ll]; omega) | omega))) ?_
         refine ol_pure rfl rfl rfl (pure_index_own rfl Tryz.underlying23 sz25 rfl rfl rfl (by first | (simp only [ll]; omega) | omega)) ?_
         refine ol_step rfl (step_store_pel rfl rfl rfl sz25 rfl rfl (mget (by first | (simp only [ll]; omega) | omega)) rfl rfl (.inl rfl) rfl (Nat.le_of_ble_eq_true rfl) hM0) ?_
         refine ol_nil ?_
         refine spk 66 [(0,_),(1,_),(5,_),(6,_),(7,_)] [(0,_)] rfl rfl rfl ?_
         refine code_ops _ rfl ?_
         refine ol_pure rfl rfl rfl (pure_move rfl rfl) ?_
         refine ol_pure rfl rfl rfl (pure_addi rfl rfl rfl (by omega)) ?_
         refine ol_pure rfl rfl rfl (pure_assign rfl rfl) ?_
         refine ol_nil ?_
         refine blockQ_normal ?_
         refine spk 66 [(0,_),(1,_),(5,_),(6,_),(7,_)] [(0,_)] rfl rfl rfl ?_
         refine code_ops _ rfl ?_
         refine ol_pure rfl rfl rfl (pure_move rfl rfl) ?_
         refine ol_pure rfl rfl rfl (pure_addi rfl rfl rfl (by omega)) ?_
         refine ol_pure rfl rfl rfl (pure_assign rfl rfl) ?_
         refine ol_nil ?_
         refine loop_next (n := 66) (l := [(0, _), (1, _), (5, _), (6, _), (7, _)]) (o' := [(0, _)]) rfl ⟨rfl, rfl, rfl, rfl, rfl, trivial⟩ ⟨rfl, trivial⟩ ?_
         have e1 : ((j : Int) - 1).toNat = j - 1 := by omega
         rw [e1, hL2_5 (q + j) (by omega), hL2_5 (q + (j - 1)) (by omega)] at h5
         refine ⟨_, ⟨ys.set k (l.getD (q + j) default), k + 1, j + 1, rfl, by omega, by omega, by simpa using hL2_2, cpt_put (by omega) hL2_3 ?_, by omega, fun i hi => ?_, fun x hx => ?_, ?_⟩, by omega⟩
         · rw [show q + j - 1 = q + (j - 1) by omega]
           exact h5
         · rw [getD_set_ne' (by omega)]; exact hL2_5 i (by omega)
         · rcases List.mem_or_eq_of_mem_set hx with hx | rfl
           · exact hL2_6 x hx
           · exact kid_mem (by omega)
         · rw [List.map_set, ← hL2_5 (q + j) (by omega)]; rfl
        ·try simp only [dq] at h5
         refine code_skip ?_
         refine blockQ_normal ?_
         refine spk 66 [(0,_),(1,_),(5,_),(6,_),(7,_)] [(0,_)] rfl rfl rfl ?_
         refine code_ops _ rfl ?_
         refine ol_pure rfl rfl rfl (pure_move rfl rfl) ?_
         refine ol_pure rfl rfl rfl (pure_addi rfl rfl rfl (by omega)) ?_
         refine ol_pure rfl rfl rfl (pure_assign rfl rfl) ?_
         refine ol_nil ?_
         refine loop_next (n := 66) (l := [(0, _), (1, _), (5, _), (6, _), (7, _)]) (o' := [(0, _)]) rfl ⟨rfl, rfl, rfl, rfl, rfl, trivial⟩ ⟨rfl, trivial⟩ ?_
         have e1 : ((j : Int) - 1).toNat = j - 1 := by omega
         rw [e1, hL2_5 (q + j) (by omega), hL2_5 (q + (j - 1)) (by omega)] at h5
         refine ⟨_, ⟨ys, k, j + 1, rfl, by omega, by omega, hL2_2, cpt_skip (by omega) hL2_3 ?_, by omega, fun i hi => hL2_5 i (by omega), hL2_6, rfl⟩, by omega⟩
         rw [show q + j - 1 = q + (j - 1) by omega]
         exact h5
       ·try simp only [dq] at h4
        refine code_exit ?_
        refine seqQ_exit ?_
        refine loopM_exit ?_
        refine blockQ_same ?_
        refine spk 66 [(0,_),(5,_)] [(0,_)] rfl rfl rfl ?_
        refine code_seq ?_
        refine code_ops _ rfl ?_
        refine ol_pure rfl rfl rfl (pure_move rfl rfl) ?_
        refine ol_pure rfl rfl rfl (pure_move rfl rfl) ?_
        refine ol_pure rfl rfl rfl (pure_slice_ownl rfl Tryz.underlying23 sz25 rfl rfl rfl (by first | (simp only [ll]; omega) | omega)) ?_
        refine ol_step rfl (step_clear_vsl (zv := .agg [int 0, .sc (.slice none 0 0), .sc (.slice none 0 0)]) rfl rfl rfl Tryz.underlying23 sz25 rfl rfl ze25 (by decide) rfl rfl hM0) ?_
        refine ol_nil ?_
        refine spk 66 [(0,_),(5,_)] [(0,_)] rfl rfl rfl ?_
        refine code_seq ?_
        refine code_ops _ rfl ?_
        refine ol_pure rfl rfl rfl (pure_move rfl rfl) ?_
        refine ol_pure rfl rfl rfl (pure_move rfl rfl) ?_
        refine ol_pure rfl rfl rfl (pure_slice_own rfl Tryz.underlying23 sz25 rfl rfl rfl (by first | (simp only [ll]; omega) | omega)) ?_
        refine ol_trunc 64 rfl rfl hM0 rfl ?_
        refine ol_pure rfl rfl rfl (pure_assign rfl rfl) ?_
        refine ol_nil ?_
        refine spk 66 [(4,_)] [(0,_)] rfl rfl rfl ?_
        refine code_ret ?_
        refine blockQ_ret ?_
        refine seqQ_ret ?_
        refine loopM_ret ?_
        refine blockQ_ret ?_
        refine seqQ_ret ?_
        refine endO_ret (o1 := [(0, _)]) rfl ⟨rfl, trivial⟩ ?_
        refine ⟨rfl, ?_⟩
        rw [← cpt_fin (f := rx) (k := k) (n := q + j) (by omega) (by omega) hL2_3]; rfl
     ·try simp only [dq] at h3
      refine code_skip ?_
      refine blockQ_normal ?_
      refine spk 66 [(0,_),(1,_),(5,_)] [(0,_)] rfl rfl rfl ?_
      refine code_ops _ rfl ?_
      refine ol_pure rfl rfl rfl (pure_move rfl rfl) ?_
      refine ol_pure rfl rfl rfl (pure_addi rfl rfl rfl (by omega)) ?_
      refine ol_pure rfl rfl rfl (pure_assign rfl rfl) ?_
      refine ol_nil ?_
      refine loop_next (n := 66) (l := [(0, _), (1, _), (5, _)]) (o' := [(0, _)]) rfl ⟨rfl, rfl, rfl, trivial⟩ ⟨rfl, trivial⟩ ?_
      rw [e0] at h3
      exact ⟨_, ⟨q + 1, rfl, by omega, by omega, cptN_take (by omega) hL1_2 (h3), rfl⟩, by omega⟩
    ·try simp only [dq] at h2
     refine code_exit ?_
     refine seqQ_exit ?_
     refine loopM_exit ?_
     refine blockQ_same ?_
     refine spk 66 [(0,_)] [(0,_)] rfl rfl rfl ?_
     refine code_seq ?_
     refine code_ops _ rfl ?_
     refine ol_pure rfl rfl rfl (pure_move rfl rfl) ?_
     refine ol_pure rfl rfl rfl (pure_assign rfl rfl) ?_
     refine ol_nil ?_
     refine spk 66 [(4,_)] [(0,_)] rfl rfl rfl ?_
     refine code_ret ?_
     refine endO_ret (o1 := [(0, _)]) rfl ⟨rfl, trivial⟩ ?_
     rw [cpt_all (n := q) (by omega) hL1_2]; exact ⟨rfl, rfl⟩
end Go.Proofs.YtgdehkimfmfofaaGreat

namespace Go.Proofs.YtgdehkimfmfofaaGreat
open Go.Am Go.Wb
set_option linter.unusedVariables false
set_option linter.unusedSimpArgs false

abbrev putO (s : List Int) (k : List Rx) : List (Nat × Ob) := [(10, .arr 3 (s.map int)), (11, .arr 25 (k.map rx)), (1000001, .box 22 [.own 10]), (1000002, .box 23 [.own 11])]
theorem fn111 : Fn0 Tryz.prog 111 Tryz.f111.ntmps (Tryz.f111.body.getD .skip) := ⟨Tryz.f111, Tryz.func111, rfl, rfl, rfl, by kernel_rfl⟩
set_option maxRecDepth 100000 in
set_option maxHeartbeats 4000000 in
theorem put_call {x : Rx} {s : List Int} {k : List Rx} (hs : s.length + x.syms.length ≤ 1099511627776) (hk : k.length ≤ 1099511627776) :
    CallO Tryz.prog 111 [.v .pl (rx x), .pbox 1000001 0, .pbox 1000002 0] (putO s k) (.v .pl (.tup [])) (putO (putS s x) (putK k x)) := by
  rw [rx_eq x]
  refine callO_of_code0 fn111 (Nat.le_of_ble_eq_true rfl) fun w0 M0 hM0 => ?_
  refine code_seq ?_
  refine code_ops _ rfl ?_
  refine ol_pure rfl rfl rfl (pure_box rfl rfl rfl hM0) ?_
  refine ol_nil ?_
  refine spk 20 [(1,_),(2,_),(3,_)] [(10,_),(11,_),(1000001,_),(1000002,_)] rfl rfl rfl ?_
  refine code_seq ?_
  refine code_ops _ rfl ?_
  refine ol_pure rfl rfl rfl (pure_field rfl fd25_0 rfl) ?_
  refine ol_pure rfl rfl rfl (pure_load rfl ag3 rfl rfl) ?_
  refine ol_nil ?_
  refine spk 20 [(1,_),(2,_),(3,_),(5,_)] [(10,_),(11,_),(1000001,_),(1000002,_)] rfl rfl rfl ?_
  refine code_block ?_
  refine code_seq ?_
  refine code_ops _ rfl ?_
  refine ol_pure rfl rfl rfl (pure_eql rfl rfl rfl) ?_
  refine ol_pure rfl rfl rfl (pure_assign rfl rfl) ?_
  refine ol_nil ?_
  refine spk 20 [(1,_),(2,_),(3,_),(5,_),(12,_)] [(10,_),(11,_),(1000001,_),(1000002,_)] rfl rfl rfl ?_
  refine code_cond rfl (fun h1 => ?_) (fun h1 => ?_)
  ·try simp only [dq] at h1
   refine code_skip ?_
   refine blockQ_normal ?_
   refine endO0_normal (o1 := [(10, _), (11, _), (1000001, _), (1000002, _)]) ⟨rfl, rfl, rfl, rfl, trivial⟩ ?_
   rw [putS_x (by omega), putK_0 (by omega)]
  ·try simp only [dq] at h1
   refine code_seq ?_
   refine code_ops _ rfl ?_
   refine ol_pure rfl rfl rfl (pure_eql rfl rfl rfl) ?_
   refine ol_pure rfl rfl rfl (pure_assign rfl rfl) ?_
   refine ol_nil ?_
   refine spk 20 [(1,_),(2,_),(3,_),(14,_)] [(10,_),(11,_),(1000001,_),(1000002,_)] rfl rfl rfl ?_
   refine code_cond rfl (fun h2 => ?_) (fun h2 => ?_)
   ·try simp only [dq] at h2
    refine code_ops _ rfl ?_
    refine ol_pure rfl rfl rfl (pure_load_box rfl ag22 rfl rfl rfl) ?_
    refine ol_pure rfl rfl rfl (pure_field rfl fd25_1 rfl) ?_
    refine ol_pure rfl rfl rfl (pure_load rfl ag22 rfl rfl) ?_
    refine ol_step rfl (step_append rfl rfl rfl rfl Tryz.underlying22 el3 rfl rfl hM0 (src_scm rfl (fun _ => ⟨_, rfl⟩)) (by first | (simp only [ll]; omega) | omega) (by first | (simp only [ll]; omega) | omega)) ?_
    refine ol_step rfl (step_store_box_own rfl rfl rfl sz22 rfl rfl rfl rfl rfl hM0) ?_
    refine ol_nil ?_
    refine blockQ_normal ?_
    refine endO0_normal (o1 := [(10, _), (11, _), (1000001, _), (1000002, _)]) ⟨rfl, rfl, rfl, rfl, trivial⟩ ?_
    rw [putS_2 (by omega), putK_0 (by omega)]; unfold putO; rw [List.map_append]; rfl
   ·try simp only [dq] at h2
    refine code_draw mixed (by kernel_rfl) _ rfl ?_
    refine dl_pure rfl rfl rfl (pure_load_box rfl ag23 rfl rfl rfl) ?_
    refine dl_pure rfl rfl rfl (pure_load_agg rfl ag25 sz25 rfl (Nat.le_of_ble_eq_true rfl)) ?_
    refine dl_pure rfl rfl rfl (pure_lenm rfl Tryz.underlying23 rfl) ?_
    refine dl_pure rfl rfl rfl (pure_lit rfl Tryz.underlying23 el25 rfl rfl rfl rfl hM0) ?_
    refine dl_ends (by kernel_rfl) (endL_of (n := 4) (by kernel_rfl) ?_)
    refine ex_one (i := 4) (by kernel_rfl) rfl rfl (step_append rfl rfl rfl rfl Tryz.underlying23 el25 rfl rfl hM0 (src_pl rfl (one_len (by rfl))) (by first | (simp only [ll]; omega) | omega) (by first | (simp only [ll]; omega) | omega)) ?_
    refine ex_two (i := 5) (j := 7) (by kernel_rfl) rfl rfl rfl rfl (st_pure rfl rfl (pure_index_own rfl Tryz.underlying23 sz25 rfl rfl rfl (by first | (simp only [ll]; omega) | omega))) (step_store_box_own rfl rfl rfl sz23 rfl rfl rfl rfl rfl hM0) ?_ ?_
    ·skip
     refine ex_two (i := 6) (j := 7) (by kernel_rfl) rfl rfl rfl rfl (step_store_pel rfl rfl rfl sz25 rfl rfl (get_lastm rx k _) rfl rfl (.inl rfl) rfl (Nat.le_of_ble_eq_true rfl) hM0) (step_store_box_own rfl rfl rfl sz23 rfl rfl rfl rfl rfl hM0) ?_ ?_
     ·skip
      refine ex_one (i := 7) (by kernel_rfl) rfl rfl (step_store_box_own rfl rfl rfl sz23 rfl rfl rfl rfl rfl hM0) ?_
      refine ex_end (by kernel_rfl) ?_
      refine blockQ_normal ?_
      refine endO0_normal (o1 := [(10, _), (11, _), (1000001, _), (1000002, _)]) ⟨rfl, rfl, rfl, rfl, trivial⟩ ?_
      rw [putS_x (by omega), putK_x (by omega)]; unfold putO; rw [← set_last (z := .agg [int 0, .sc (.slice none 0 0), .sc (.slice none 0 0)]), rx_eq x]; rfl
     ·skip
      refine ex_one (i := 6) (by kernel_rfl) rfl rfl (step_store_pel rfl rfl rfl sz25 rfl rfl (get_lastm rx k _) rfl rfl (.inl rfl) rfl (Nat.le_of_ble_eq_true rfl) hM0) ?_
      refine ex_end (by kernel_rfl) ?_
      refine blockQ_normal ?_
      refine endO0_normal (o1 := [(10, _), (11, _), (1000001, _), (1000002, _)]) ⟨rfl, rfl, rfl, rfl, trivial⟩ ?_
      rw [putS_x (by omega), putK_x (by omega)]; unfold putO; rw [← set_last (z := .agg [int 0, .sc (.slice none 0 0), .sc (.slice none 0 0)]), rx_eq x]; rfl
    ·skip
     refine ex_one (i := 5) (by kernel_rfl) rfl rfl (st_pure rfl rfl (pure_index_own rfl Tryz.underlying23 sz25 rfl rfl rfl (by first | (simp only [ll]; omega) | omega))) ?_
     refine ex_one (i := 6) (by kernel_rfl) rfl rfl (step_store_pel rfl rfl rfl sz25 rfl rfl (get_lastm rx k _) rfl rfl (.inl rfl) rfl (Nat.le_of_ble_eq_true rfl) hM0) ?_
     refine ex_end (by kernel_rfl) ?_
     refine blockQ_normal ?_
     refine endO0_normal (o1 := [(10, _), (11, _), (1000001, _), (1000002, _)]) ⟨rfl, rfl, rfl, rfl, trivial⟩ ?_
     rw [putS_x (by omega), putK_x (by omega)]; unfold putO; rw [← set_last (z := .agg [int 0, .sc (.slice none 0 0), .sc (.slice none 0 0)]), rx_eq x]; rfl
end Go.Proofs.YtgdehkimfmfofaaGreat

namespace Go.Proofs.YtgdehkimfmfofaaGreat
open Go.Am Go.Wb
set_option linter.unusedVariables false
theorem sortsR : SortsK Tryz.prog 114 3 :=
  ⟨⟨Tryz.f114, Tryz.func114, by kernel_rfl, by kernel_rfl⟩,
   fun p cap fv w => AnyF.slices_SortFunc_none { Tryz.sortR with } p cap fv w,
   fun enc hk h1 cf hO g cb blk off cap d w eg hcmp hH hblk hsz => AnyQ.slices_SortFunc Tryz.sortR 3 (fun w => run_isAggOf ag25 w) (fun w => run_size sz25 w) enc hk h1 cf hO g cb blk off cap d w eg hcmp hH hblk hsz⟩
theorem sortsZ : SortsZ Tryz.prog 112 :=
  ⟨⟨Tryz.f112, Tryz.func112, by kernel_rfl, by kernel_rfl⟩,
   fun p cap w => AnyM.slices_Sort_int_none Tryz.sortZ p cap w,
   fun blk off cap zs w hH hblk hsz => AnyM.slices_Sort_int Tryz.sortZ blk off cap zs w hH hblk hsz⟩
theorem revsR : RevK Tryz.prog 76 3 :=
  ⟨⟨Tryz.f76, Tryz.func76, by kernel_rfl, by kernel_rfl⟩,
   fun p cap w => AnyQ.slices_Reverse_empty Tryz.revR p cap w,
   fun enc hk h1 blk off cap d w hH hsz => AnyQ.slices_Reverse Tryz.revR 3 (fun w => run_isAggOf ag25 w) (fun w => run_size sz25 w) enc hk h1 blk off cap d w hH hsz⟩
end Go.Proofs.YtgdehkimfmfofaaGreat

