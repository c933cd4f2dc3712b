/-
  Contracts: beginnings, cuts; what the tokens of a pattern are made with.
-/
import Derived.Test.YtgdehkimfmfofaaGreatJ21
import Derived.Test.YtgdehkimfmfofaaGreatJ18
import Derived.Test.YtgdehkimfmfofaaGreatJ16
import Derived.Shelf.Small.Strs
set_option linter.unusedVariables false
set_option linter.unusedSimpArgs false
namespace Go.Proofs.YtgdehkimfmfofaaGreat
open Go.Am Go.Wc Go.Shelf Go.RowKit
set_option linter.unusedVariables false
set_option linter.unusedSimpArgs false

theorem callF_sc {P : Program} {f : FuncId} (hc : Callable P f) {zs : List Value} {r : RV} (h : ∀ w : World, Calls P f zs.toArray w fun e w' => ∃ v, e = .returned v ∧ Am.Below w.heap.size w w' ∧ RVok P w' (fun b => b < w.heap.size) (fun b => b < w.heap.size) v r) : CallF P f (zs.map .sc) r :=
  ⟨hc, fun w vs hv hr => by
    have : vs = zs := by
      apply List.ext_getElem
      · simpa using hv
      · intro j h1 h2
        have := hr j (.sc zs[j]) (by simp [List.getElem?_eq_getElem h2])
        rw [List.getD_eq_getElem?_getD, List.getElem?_eq_getElem h1, Option.getD_some] at this
        generalize vs[j] = u at this ⊢
        generalize zs[j] = u' at this ⊢
        cases this; rfl
    subst this
    exact h w⟩
theorem indexByte_call {s : List UInt8} {c : UInt8} : CallF Tryz.prog 90 [sbytes s, byte c] (.p (int (Lib.indexByte s c))) :=
  callF_sc (zs := [.string ⟨s.toArray⟩, .int .u8 c.toNat]) ⟨Tryz.f90, Tryz.func90, by kernel_rfl, by kernel_rfl⟩ fun w => (Any.strings_IndexByte Tryz.ixB ⟨s.toArray⟩ c.toNat w).mono fun e w' ⟨h1, h2⟩ => by
    subst h2
    refine ⟨_, h1, .refl _ _, ?_⟩
    have e1 : ((c.toNat : Int).toNat.toUInt8) = c := by simp
    rw [e1]
    exact .sc _ rfl
theorem fn109 : Fn1 Tryz.prog 109 Tryz.f109.ntmps 6 (Tryz.f109.body.getD .skip) := ⟨Tryz.f109, Tryz.func109, rfl, rfl, rfl, by kernel_rfl⟩
set_option maxRecDepth 100000 in
theorem within_call {n low high : Int} : CallF Tryz.prog 109 [int n, int low, int high] (.p (bool (decide (low ≤ n) && decide (n ≤ high)))) := by
  refine callF_of_code fn109 (Nat.le_of_ble_eq_true rfl) fun w0 M0 hM0 => ?_
  refine code_seq ?_
  refine code_ops _ rfl ?_
  refine ol_pure rfl rfl rfl (pure_assign rfl rfl) ?_
  refine ol_nil ?_
  refine spk 15 [(0,_),(1,_),(2,_)] [] rfl rfl rfl ?_
  refine code_seq ?_
  refine code_ops _ rfl ?_
  refine ol_pure rfl rfl rfl (pure_move rfl rfl) ?_
  refine ol_pure rfl rfl rfl (pure_move rfl rfl) ?_
  refine ol_pure rfl rfl rfl (pure_leq rfl rfl rfl) ?_
  refine ol_pure rfl rfl rfl (pure_move rfl rfl) ?_
  refine ol_guard rfl (fun h1 => ?_) (fun h1 => ?_)
  ·have h1' := h1; try simp only [dq] at h1'
   refine ol_pure_g rfl rfl h1 rfl rfl (pure_move rfl rfl) ?_
   refine ol_pure_g rfl rfl h1 rfl rfl (pure_move rfl rfl) ?_
   refine ol_pure_g rfl rfl h1 rfl rfl (pure_leq rfl rfl rfl) ?_
   refine ol_pure rfl rfl rfl (pure_pick_t rfl rfl h1 rfl) ?_
   refine ol_pure rfl rfl rfl (pure_assign rfl rfl) ?_
   refine ol_nil ?_
   refine spk 15 [(6,_)] [] rfl rfl rfl ?_
   refine code_ret ?_
   refine end_ret rfl ?_
   simp_all <;> (intros; omega)
  ·have h1' := h1; try simp only [dq] at h1'
   refine ol_skip_g rfl rfl h1 rfl rfl ?_
   refine ol_skip_g rfl rfl h1 rfl rfl ?_
   refine ol_skip_g rfl rfl h1 rfl rfl ?_
   refine ol_pure rfl rfl rfl (pure_pick_f rfl rfl h1 rfl) ?_
   refine ol_pure rfl rfl rfl (pure_assign rfl rfl) ?_
   refine ol_nil ?_
   refine spk 15 [(6,_)] [] rfl rfl rfl ?_
   refine code_ret ?_
   refine end_ret rfl ?_
   simp_all <;> (intros; omega)
theorem fn110 : Fn1 Tryz.prog 110 Tryz.f110.ntmps 2 (Tryz.f110.body.getD .skip) := ⟨Tryz.f110, Tryz.func110, rfl, rfl, rfl, by kernel_rfl⟩
set_option maxRecDepth 100000 in
set_option maxHeartbeats 2000000 in
theorem aplain_call {s : List UInt8} (hs : s.length ≤ 1099511627776) : CallF Tryz.prog 110 [sbytes s] (.p (bool (plainT s))) := by
  refine callF_of_code fn110 (Nat.le_of_ble_eq_true rfl) fun w0 M0 hM0 => ?_
  refine code_seq ?_
  refine code_ops _ rfl ?_
  refine ol_pure rfl rfl rfl (pure_assign rfl rfl) ?_
  refine ol_nil ?_
  refine spk 28 [(0,_)] [] rfl rfl rfl ?_
  refine code_seq ?_
  refine code_seq ?_
  refine code_ops _ rfl ?_
  refine ol_pure rfl rfl rfl (pure_move rfl rfl) ?_
  refine ol_pure rfl rfl rfl (pure_slen rfl Tryz.underlying9 rfl) ?_
  refine ol_pure rfl rfl rfl (pure_move rfl rfl) ?_
  refine ol_nil ?_
  refine spk 28 [(0,_),(5,_),(6,_)] [] rfl rfl rfl ?_
  refine code_block ?_
  refine code_loopM (fun zm zs => ∃ k : Nat, zm = s.length - k ∧ (k ≤ s.length) ∧ ((s.take k).all (fun c => !resB c) = true) ∧ zs = ⟨28, [(0, .v .mx (sbytes s)), (5, .v .pl (int s.length)), (6, .v .pl (int k))], []⟩) (loop_init (n := 28) (l := [(0, _), (5, _), (6, _)]) (o' := []) rfl ⟨rfl, rfl, rfl, trivial⟩ trivial ?_) ?_
  ·exact ⟨_, 0, rfl, Nat.zero_le _, rfl, rfl⟩
  ·rintro zm zs ⟨k, rfl, hL1_0, hL1_1, rfl⟩
   refine code_seq ?_
   refine code_ops _ rfl ?_
   refine ol_pure rfl rfl rfl (pure_lss rfl rfl rfl) ?_
   refine ol_nil ?_
   refine spk 28 [(0,_),(5,_),(6,_),(7,_)] [] rfl rfl rfl ?_
   refine code_seq ?_
   refine code_cond rfl (fun h1 => ?_) (fun h1 => ?_)
   ·try simp only [dq] at h1
    refine code_skip ?_
    refine spk 28 [(0,_),(5,_),(6,_)] [] rfl rfl rfl ?_
    refine code_seq ?_
    refine code_block ?_
    refine code_seq ?_
    refine code_ops _ rfl ?_
    refine ol_pure rfl rfl rfl (pure_move rfl rfl) ?_
    refine ol_pure rfl rfl rfl (pure_assign rfl rfl) ?_
    refine ol_nil ?_
    refine spk 28 [(0,_),(3,_),(5,_),(6,_)] [] rfl rfl rfl ?_
    refine code_cut (fun zs => ∃ z : Bool, (resB (s.getD k 0) = z) ∧ zs = ⟨28, [(0, .v .mx (sbytes s)), (5, .v .pl (int s.length)), (6, .v .pl (int k)), (19, .v .pl (bool z))], []⟩) ?_ ?_
    ·skip
     refine code_ops _ rfl ?_
     refine ol_pure rfl rfl rfl (pure_move rfl rfl) ?_
     refine ol_pure rfl rfl rfl (pure_move rfl rfl) ?_
     refine ol_pure rfl rfl rfl (pure_sindex rfl Tryz.underlying9 rfl rfl (by omega)) ?_
     refine ol_pure rfl rfl rfl (pure_lss rfl rfl rfl) ?_
     refine ol_pure rfl rfl rfl (pure_move rfl rfl) ?_
     refine ol_guard rfl (fun h2 => ?_) (fun h2 => ?_)
     ·have h2' := h2; try simp only [dq] at h2'
      refine ol_skip_g rfl rfl h2 rfl rfl ?_
      refine ol_skip_g rfl rfl h2 rfl rfl ?_
      refine opk 28 [(0,_),(5,_),(6,_),(13,_),(14,_),(15,_)] [] rfl rfl rfl ?_
      refine ol_skip_g rfl rfl h2 rfl rfl ?_
      refine ol_skip_g rfl rfl h2 rfl rfl ?_
      refine ol_skip_g rfl rfl h2 rfl rfl ?_
      refine ol_pure rfl rfl rfl (pure_pick_t rfl rfl h2 rfl) ?_
      refine ol_nil ?_
      refine cut_next (n := 28) (l := [(0, _), (5, _), (6, _), (19, _)]) (o' := []) rfl ⟨rfl, rfl, rfl, rfl, trivial⟩ trivial ?_
      exact ⟨_, resB_lt h2', rfl⟩
     ·have h2' := h2; try simp only [dq] at h2'
      refine ol_pure_g rfl rfl h2 rfl rfl (pure_move rfl rfl) ?_
      refine ol_pure_g rfl rfl h2 rfl rfl (pure_move rfl rfl) ?_
      refine opk 28 [(0,_),(5,_),(6,_),(13,_),(14,_),(15,_)] [] rfl rfl rfl ?_
      refine ol_pure_g rfl rfl h2 rfl rfl (pure_sindex rfl Tryz.underlying9 rfl rfl (by omega)) ?_
      refine ol_pure_g rfl rfl h2 rfl rfl (pure_call rfl rfl rfl (indexByte_call) hM0) ?_
      refine ol_pure_g rfl rfl h2 rfl rfl (pure_geq rfl rfl rfl) ?_
      refine ol_pure rfl rfl rfl (pure_pick_f rfl rfl h2 rfl) ?_
      refine ol_nil ?_
      refine cut_next (n := 28) (l := [(0, _), (5, _), (6, _), (19, _)]) (o' := []) rfl ⟨rfl, rfl, rfl, rfl, trivial⟩ trivial ?_
      exact ⟨_, resB_ib h2', rfl⟩
    ·rintro zs ⟨z, hC5_0, rfl⟩
     refine code_cond rfl (fun h3 => ?_) (fun h3 => ?_)
     ·try simp only [dq] at h3
      refine code_seq ?_
      refine code_ops _ rfl ?_
      refine ol_pure rfl rfl rfl (pure_assign rfl rfl) ?_
      refine ol_nil ?_
      refine spk 28 [(2,_)] [] rfl rfl rfl ?_
      refine code_ret ?_
      refine blockQ_ret ?_
      refine seqQ_ret ?_
      refine loopM_ret ?_
      refine blockQ_ret ?_
      refine seqQ_ret ?_
      refine end_ret rfl ?_
      rw [plainT_hit (k := k) (by omega) (by rw [hC5_0]; assumption)]
     ·try simp only [dq] at h3
      refine code_skip ?_
      refine blockQ_normal ?_
      refine spk 28 [(0,_),(5,_),(6,_)] [] rfl rfl rfl ?_
      refine code_ops _ rfl ?_
      refine ol_pure rfl rfl rfl (pure_addi rfl rfl rfl (by omega)) ?_
      refine ol_pure rfl rfl rfl (pure_move rfl rfl) ?_
      refine ol_nil ?_
      refine loop_next (n := 28) (l := [(0, _), (5, _), (6, _)]) (o' := []) rfl ⟨rfl, rfl, rfl, trivial⟩ trivial ?_
      exact ⟨_, ⟨k + 1, rfl, by omega, plainT_step (by omega) hL1_1 (by rw [hC5_0]; assumption), rfl⟩, by omega⟩
   ·try simp only [dq] at h1
    refine code_exit ?_
    refine seqQ_exit ?_
    refine loopM_exit ?_
    refine blockQ_same ?_
    refine spk 28 [(0,_)] [] rfl rfl rfl ?_
    refine code_seq ?_
    refine code_ops _ rfl ?_
    refine ol_pure rfl rfl rfl (pure_move rfl rfl) ?_
    refine ol_pure rfl rfl rfl (pure_sneq rfl rfl rfl) ?_
    refine ol_pure rfl rfl rfl (pure_move rfl rfl) ?_
    refine ol_guard rfl (fun h4 => ?_) (fun h4 => ?_)
    ·have h4' := h4; try simp only [dq] at h4'
     refine ol_pure_g rfl rfl h4 rfl rfl (pure_move rfl rfl) ?_
     refine ol_pure_g rfl rfl h4 rfl rfl (pure_slen rfl Tryz.underlying9 rfl) ?_
     refine ol_pure_g rfl rfl h4 rfl rfl (pure_leq rfl rfl rfl) ?_
     refine ol_pure rfl rfl rfl (pure_pick_t rfl rfl h4 rfl) ?_
     refine ol_pure rfl rfl rfl (pure_assign rfl rfl) ?_
     refine ol_nil ?_
     refine spk 28 [(2,_)] [] rfl rfl rfl ?_
     refine code_ret ?_
     refine end_ret rfl ?_
     rw [plainT_end (k := k) (by omega) hL1_1, decide_eq_true (p := 1 ≤ s.length) (by cases s with | nil => exact absurd rfl (by assumption) | cons x y => simp), Bool.true_and]; congr 4; apply propext; omega
    ·have h4' := h4; try simp only [dq] at h4'
     refine ol_skip_g rfl rfl h4 rfl rfl ?_
     refine ol_skip_g rfl rfl h4 rfl rfl ?_
     refine ol_skip_g rfl rfl h4 rfl rfl ?_
     refine ol_pure rfl rfl rfl (pure_pick_f rfl rfl h4 rfl) ?_
     refine ol_pure rfl rfl rfl (pure_assign rfl rfl) ?_
     refine ol_nil ?_
     refine spk 28 [(2,_)] [] rfl rfl rfl ?_
     refine code_ret ?_
     refine end_ret rfl ?_
     rw [plainT_end (k := k) (by omega) hL1_1]; subst h4'; rfl
end Go.Proofs.YtgdehkimfmfofaaGreat

namespace Go.Proofs.YtgdehkimfmfofaaGreat
open Go.Am Go.Wb Go.Wc Go.Shelf Go.RowKit
set_option linter.unusedVariables false
set_option linter.unusedSimpArgs false
theorem ixS_call {s : List UInt8} {c : UInt8} : CallF Tryz.prog 141 [sbytes s, sbytes [c]] (.p (int (Lib.indexByte s c))) :=
  callF_sc (zs := [.string ⟨s.toArray⟩, .string ⟨[c].toArray⟩]) ⟨Tryz.f141, Tryz.func141, by kernel_rfl, by kernel_rfl⟩ fun w => (Any.stringslite_Index_one Tryz.ixS ⟨s.toArray⟩ c w).mono fun e w' ⟨h1, h2⟩ => by
    subst h2
    exact ⟨_, h1, .refl _ _, .sc _ rfl⟩
theorem fn121 : Fn1 Tryz.prog 121 Tryz.f121.ntmps 4 (Tryz.f121.body.getD .skip) := ⟨Tryz.f121, Tryz.func121, rfl, rfl, rfl, by kernel_rfl⟩
set_option maxRecDepth 100000 in
theorem hpl_call {s t : List UInt8} : CallF Tryz.prog 121 [sbytes s, sbytes t] (.p (bool (preB s t))) := by
  refine callF_of_code fn121 (Nat.le_of_ble_eq_true rfl) fun w0 M0 hM0 => ?_
  refine code_seq ?_
  refine code_ops _ rfl ?_
  refine ol_pure rfl rfl rfl (pure_assign rfl rfl) ?_
  refine ol_nil ?_
  refine spk 18 [(0,_),(1,_)] [] rfl rfl rfl ?_
  refine code_seq ?_
  refine code_ops _ rfl ?_
  refine ol_pure rfl rfl rfl (pure_move rfl rfl) ?_
  refine ol_pure rfl rfl rfl (pure_slen rfl Tryz.underlying9 rfl) ?_
  refine ol_pure rfl rfl rfl (pure_move rfl rfl) ?_
  refine ol_pure rfl rfl rfl (pure_slen rfl Tryz.underlying9 rfl) ?_
  refine ol_pure rfl rfl rfl (pure_geq rfl rfl rfl) ?_
  refine ol_pure rfl rfl rfl (pure_move rfl rfl) ?_
  refine ol_guard rfl (fun h1 => ?_) (fun h1 => ?_)
  ·have h1' := h1; try simp only [dq] at h1'
   refine ol_pure_g rfl rfl h1 rfl rfl (pure_move rfl rfl) ?_
   refine opk 18 [(1,_),(10,_),(11,_)] [] rfl rfl rfl ?_
   refine ol_pure_g rfl rfl h1 rfl rfl (pure_move rfl rfl) ?_
   refine ol_pure_g rfl rfl h1 rfl rfl (pure_slen rfl Tryz.underlying9 rfl) ?_
   refine ol_pure_g rfl rfl h1 rfl rfl (pure_sslice_h rfl Tryz.underlying9 rfl rfl (by omega)) ?_
   refine ol_pure_g rfl rfl h1 rfl rfl (pure_move rfl rfl) ?_
   refine ol_pure_g rfl rfl h1 rfl rfl (pure_seql rfl rfl rfl) ?_
   refine ol_pure rfl rfl rfl (pure_pick_t rfl rfl h1 rfl) ?_
   refine ol_pure rfl rfl rfl (pure_assign rfl rfl) ?_
   refine ol_nil ?_
   refine spk 18 [(4,_)] [] rfl rfl rfl ?_
   refine code_ret ?_
   refine end_ret rfl ?_
   unfold preB
   first
     | (rw [decide_eq_true (p := t.length ≤ s.length) (by omega), Bool.true_and]; first | done | rfl)
     | (rw [decide_eq_false (p := t.length ≤ s.length) (by omega), Bool.false_and]; first | done | rfl)
  ·have h1' := h1; try simp only [dq] at h1'
   refine ol_skip_g rfl rfl h1 rfl rfl ?_
   refine opk 18 [(1,_),(10,_),(11,_)] [] rfl rfl rfl ?_
   refine ol_skip_g rfl rfl h1 rfl rfl ?_
   refine ol_skip_g rfl rfl h1 rfl rfl ?_
   refine ol_skip_g rfl rfl h1 rfl rfl ?_
   refine ol_skip_g rfl rfl h1 rfl rfl ?_
   refine ol_skip_g rfl rfl h1 rfl rfl ?_
   refine ol_pure rfl rfl rfl (pure_pick_f rfl rfl h1 rfl) ?_
   refine ol_pure rfl rfl rfl (pure_assign rfl rfl) ?_
   refine ol_nil ?_
   refine spk 18 [(4,_)] [] rfl rfl rfl ?_
   refine code_ret ?_
   refine end_ret rfl ?_
   unfold preB
   first
     | (rw [decide_eq_true (p := t.length ≤ s.length) (by omega), Bool.true_and]; first | done | rfl)
     | (rw [decide_eq_false (p := t.length ≤ s.length) (by omega), Bool.false_and]; first | done | rfl)
theorem fn89 : Fn1 Tryz.prog 89 Tryz.f89.ntmps 4 (Tryz.f89.body.getD .skip) := ⟨Tryz.f89, Tryz.func89, rfl, rfl, rfl, by kernel_rfl⟩
set_option maxRecDepth 100000 in
theorem hp_call {s t : List UInt8} : CallF Tryz.prog 89 [sbytes s, sbytes t] (.p (bool (preB s t))) := by
  refine callF_of_code fn89 (Nat.le_of_ble_eq_true rfl) fun w0 M0 hM0 => ?_
  refine code_seq ?_
  refine code_ops _ rfl ?_
  refine ol_pure rfl rfl rfl (pure_assign rfl rfl) ?_
  refine ol_nil ?_
  refine spk 8 [(0,_),(1,_)] [] rfl rfl rfl ?_
  refine code_seq ?_
  refine code_ops _ rfl ?_
  refine ol_pure rfl rfl rfl (pure_move rfl rfl) ?_
  refine ol_pure rfl rfl rfl (pure_move rfl rfl) ?_
  refine ol_pure rfl rfl rfl (pure_call rfl rfl rfl (hpl_call) hM0) ?_
  refine ol_pure rfl rfl rfl (pure_assign rfl rfl) ?_
  refine ol_nil ?_
  refine spk 8 [(4,_)] [] rfl rfl rfl ?_
  refine code_ret ?_
  refine end_ret rfl ?_
  rfl
theorem fn123 : Fn3 Tryz.prog 123 Tryz.f123.ntmps 4 5 6 (Tryz.f123.body.getD .skip) := ⟨Tryz.f123, Tryz.func123, rfl, rfl, rfl, by kernel_rfl⟩
set_option maxRecDepth 100000 in
theorem cutl_call {s : List UInt8} {c : UInt8} (hs : s.length ≤ 1099511627776) : CallF Tryz.prog 123 [sbytes s, sbytes [c]] (.p (.tup [sbytes (cutB s c), sbytes (cutA s c), bool (decide (0 ≤ Lib.indexByte s c))])) := by
  have hix := indexByte_lt (l := s) (c := c)
  refine callF_of_code3 fn123 (Nat.le_of_ble_eq_true rfl) fun w0 M0 hM0 => ?_
  refine code_seq ?_
  refine code_ops _ rfl ?_
  refine ol_pure rfl rfl rfl (pure_assign rfl rfl) ?_
  refine ol_pure rfl rfl rfl (pure_assign rfl rfl) ?_
  refine ol_pure rfl rfl rfl (pure_assign rfl rfl) ?_
  refine ol_nil ?_
  refine spk 23 [(0,_),(1,_)] [] rfl rfl rfl ?_
  refine code_seq ?_
  refine code_seq ?_
  refine code_ops _ rfl ?_
  refine ol_pure rfl rfl rfl (pure_move rfl rfl) ?_
  refine ol_pure rfl rfl rfl (pure_move rfl rfl) ?_
  refine ol_pure rfl rfl rfl (pure_call rfl rfl rfl (ixS_call) hM0) ?_
  refine ol_pure rfl rfl rfl (pure_assign rfl rfl) ?_
  refine ol_nil ?_
  refine spk 23 [(0,_),(1,_),(7,_)] [] rfl rfl rfl ?_
  refine code_seq ?_
  refine code_ops _ rfl ?_
  refine ol_pure rfl rfl rfl (pure_move rfl rfl) ?_
  refine ol_pure rfl rfl rfl (pure_geq rfl rfl rfl) ?_
  refine ol_nil ?_
  refine spk 23 [(0,_),(1,_),(7,_),(12,_)] [] rfl rfl rfl ?_
  refine code_cond rfl (fun h1 => ?_) (fun h1 => ?_)
  ·try simp only [dq] at h1
   refine code_seq ?_
   refine code_draw mixed (by kernel_rfl) _ rfl ?_
   refine dl_pure rfl rfl rfl (pure_move rfl rfl) ?_
   refine dl_pure rfl rfl rfl (pure_move rfl rfl) ?_
   refine dl_pure rfl rfl rfl (pure_sslice_h rfl Tryz.underlying9 rfl rfl (by omega)) ?_
   refine dl_pure rfl rfl rfl (pure_move rfl rfl) ?_
   refine dl_pure rfl rfl rfl (pure_move rfl rfl) ?_
   refine dl_pure rfl rfl rfl (pure_move rfl rfl) ?_
   refine dl_pure rfl rfl rfl (pure_slen rfl Tryz.underlying9 rfl) ?_
   refine dpk 23 [(15,_),(16,_),(17,_),(19,_)] [] rfl rfl rfl ?_
   refine dl_pure rfl rfl rfl (pure_addi rfl rfl rfl (by simp only [List.length_cons, List.length_nil]; omega)) ?_
   refine dl_pure rfl rfl rfl (pure_sslice_l rfl Tryz.underlying9 rfl rfl (by simp only [List.length_cons, List.length_nil]; omega)) ?_
   refine dl_pure rfl rfl rfl (pure_assign rfl rfl) ?_
   refine dl_pure rfl rfl rfl (pure_assign rfl rfl) ?_
   refine dl_pure rfl rfl rfl (pure_assign rfl rfl) ?_
   refine dl_nil ?_
   refine spk 23 [(4,_),(5,_),(6,_)] [] rfl rfl rfl ?_
   refine code_ret ?_
   refine seqQ_ret ?_
   refine end3_ret rfl rfl rfl ?_
   unfold cutB cutA
   first
     | (rw [if_pos (by omega), if_pos (by omega), decide_eq_true (by omega)]; exact ⟨rfl, rfl, rfl⟩)
     | (rw [if_neg (by omega), if_neg (by omega), decide_eq_false (by omega)]; exact ⟨rfl, rfl, rfl⟩)
  ·try simp only [dq] at h1
   refine code_skip ?_
   refine spk 23 [(0,_)] [] rfl rfl rfl ?_
   refine code_seq ?_
   refine code_ops _ rfl ?_
   refine ol_pure rfl rfl rfl (pure_move rfl rfl) ?_
   refine ol_pure rfl rfl rfl (pure_assign rfl rfl) ?_
   refine ol_pure rfl rfl rfl (pure_assign rfl rfl) ?_
   refine ol_pure rfl rfl rfl (pure_assign rfl rfl) ?_
   refine ol_nil ?_
   refine spk 23 [(4,_),(5,_),(6,_)] [] rfl rfl rfl ?_
   refine code_ret ?_
   refine end3_ret rfl rfl rfl ?_
   unfold cutB cutA
   first
     | (rw [if_pos (by omega), if_pos (by omega), decide_eq_true (by omega)]; exact ⟨rfl, rfl, rfl⟩)
     | (rw [if_neg (by omega), if_neg (by omega), decide_eq_false (by omega)]; exact ⟨rfl, rfl, rfl⟩)
theorem fn91 : Fn3 Tryz.prog 91 Tryz.f91.ntmps 4 5 6 (Tryz.f91.body.getD .skip) := ⟨Tryz.f91, Tryz.func91, rfl, rfl, rfl, by kernel_rfl⟩
set_option maxRecDepth 100000 in
theorem cut_call {s : List UInt8} {c : UInt8} (hs : s.length ≤ 1099511627776) : CallF Tryz.prog 91 [sbytes s, sbytes [c]] (.p (.tup [sbytes (cutB s c), sbytes (cutA s c), bool (decide (0 ≤ Lib.indexByte s c))])) := by
  refine callF_of_code3 fn91 (Nat.le_of_ble_eq_true rfl) fun w0 M0 hM0 => ?_
  refine code_seq ?_
  refine code_ops _ rfl ?_
  refine ol_pure rfl rfl rfl (pure_assign rfl rfl) ?_
  refine ol_pure rfl rfl rfl (pure_assign rfl rfl) ?_
  refine ol_pure rfl rfl rfl (pure_assign rfl rfl) ?_
  refine ol_nil ?_
  refine spk 13 [(0,_),(1,_)] [] rfl rfl rfl ?_
  refine code_seq ?_
  refine code_ops _ rfl ?_
  refine ol_pure rfl rfl rfl (pure_move rfl rfl) ?_
  refine ol_pure rfl rfl rfl (pure_move rfl rfl) ?_
  refine ol_pure rfl rfl rfl (pure_call rfl rfl rfl (cutl_call hs) hM0) ?_
  refine ol_pure rfl rfl rfl (pure_extract rfl rfl rfl) ?_
  refine ol_pure rfl rfl rfl (pure_extract rfl rfl rfl) ?_
  refine ol_pure rfl rfl rfl (pure_extract rfl rfl rfl) ?_
  refine ol_pure rfl rfl rfl (pure_assign rfl rfl) ?_
  refine ol_pure rfl rfl rfl (pure_assign rfl rfl) ?_
  refine ol_pure rfl rfl rfl (pure_assign rfl rfl) ?_
  refine ol_nil ?_
  refine spk 13 [(4,_),(5,_),(6,_)] [] rfl rfl rfl ?_
  refine code_ret ?_
  refine end3_ret rfl rfl rfl ?_
  exact ⟨rfl, rfl, rfl⟩
theorem fn93 : Fn1 Tryz.prog 93 Tryz.f93.ntmps 3 (Tryz.f93.body.getD .skip) := ⟨Tryz.f93, Tryz.func93, rfl, rfl, rfl, by kernel_rfl⟩
set_option maxRecDepth 100000 in
theorem set3_call {x : SetT} {name : List UInt8} : CallO Tryz.prog 93 [.v .mx (setA x), .pbox 1000001 0] [(1000001, .box 9 [.v .pl (sbytes name)])] (.v .pl (bool (decide (x.name = name)))) [(1000001, .box 9 [.v .pl (sbytes name)])] := by
  refine callO_of_code fn93 (Nat.le_of_ble_eq_true rfl) fun w0 M0 hM0 => ?_
  refine code_seq ?_
  refine code_ops _ rfl ?_
  refine ol_pure rfl rfl rfl (pure_box rfl rfl rfl hM0) ?_
  refine ol_pure rfl rfl rfl (pure_assign rfl rfl) ?_
  refine ol_nil ?_
  refine spk 8 [(1,_),(2,_)] [(1000001,_)] rfl rfl rfl ?_
  refine code_seq ?_
  refine code_ops _ rfl ?_
  refine ol_pure rfl rfl rfl (pure_field rfl fd106_0 rfl) ?_
  refine ol_pure rfl rfl rfl (pure_load rfl ag9 rfl rfl) ?_
  refine ol_pure rfl rfl rfl (pure_load_box rfl ag9 rfl rfl rfl) ?_
  refine ol_pure rfl rfl rfl (pure_seql rfl rfl rfl) ?_
  refine ol_pure rfl rfl rfl (pure_assign rfl rfl) ?_
  refine ol_nil ?_
  refine spk 8 [(3,_)] [(1000001,_)] rfl rfl rfl ?_
  refine code_ret ?_
  refine endO_ret (o1 := [(1000001, _)]) rfl ⟨rfl, trivial⟩ ?_
  exact ⟨rfl, rfl⟩
theorem fn92 : Fn1 Tryz.prog 92 Tryz.f92.ntmps 4 (Tryz.f92.body.getD .skip) := ⟨Tryz.f92, Tryz.func92, rfl, rfl, rfl, by kernel_rfl⟩
set_option maxRecDepth 100000 in
set_option maxHeartbeats 2000000 in
theorem idxS_call {l : List SetT} {name : List UInt8} (hl : l.length ≤ 1099511627776) : CallO Tryz.prog 92 [.v .mx (setsA l), .fn 93 [.bx 1000001]] [(1000001, .box 9 [.v .pl (sbytes name)])]
    (.v .pl (int (idxF (fun x : SetT => decide (x.name = name)) l))) [(1000001, .box 9 [.v .pl (sbytes name)])] := by
  refine callO_of_code fn92 (Nat.le_of_ble_eq_true rfl) fun w0 M0 hM0 => ?_
  refine code_seq ?_
  refine code_ops _ rfl ?_
  refine ol_pure rfl rfl rfl (pure_assign rfl rfl) ?_
  refine ol_nil ?_
  refine spk 19 [(0,_),(1,_)] [(1000001,_)] rfl rfl rfl ?_
  refine code_seq ?_
  refine code_seq ?_
  refine code_ops _ rfl ?_
  refine ol_pure rfl rfl rfl (pure_move rfl rfl) ?_
  refine ol_pure rfl rfl rfl (pure_lenm rfl Tryz.underlying40 rfl) ?_
  refine ol_pure rfl rfl rfl (pure_move rfl rfl) ?_
  refine ol_nil ?_
  refine spk 19 [(0,_),(1,_),(7,_),(8,_)] [(1000001,_)] rfl rfl rfl ?_
  refine code_block ?_
  refine code_loopM (fun zm zs => ∃ k : Nat, zm = l.length - k ∧ (k ≤ l.length) ∧ (∀ j, j < k → decide ((l.getD j default).name = name) = false) ∧ zs = ⟨19, [(0, .v .mx (setsA l)), (1, .fn 93 [.bx 1000001]), (7, .v .pl (int l.length)), (8, .v .pl (int k))], [(1000001, .box 9 [.v .pl (sbytes name)])]⟩) (loop_init (n := 19) (l := [(0, _), (1, _), (7, _), (8, _)]) (o' := [(1000001, _)]) rfl ⟨rfl, rfl, rfl, rfl, trivial⟩ ⟨rfl, trivial⟩ ?_) ?_
  ·exact ⟨_, 0, rfl, Nat.zero_le _, fun j hj => absurd hj (by omega), rfl⟩
  ·rintro zm zs ⟨k, rfl, hL1_0, hL1_1, rfl⟩
   refine code_seq ?_
   refine code_ops _ rfl ?_
   refine ol_pure rfl rfl rfl (pure_lss rfl rfl rfl) ?_
   refine ol_nil ?_
   refine spk 19 [(0,_),(1,_),(7,_),(8,_),(9,_)] [(1000001,_)] rfl rfl rfl ?_
   refine code_seq ?_
   refine code_cond rfl (fun h1 => ?_) (fun h1 => ?_)
   ·try simp only [dq] at h1
    refine code_skip ?_
    refine spk 19 [(0,_),(1,_),(7,_),(8,_)] [(1000001,_)] rfl rfl rfl ?_
    refine code_seq ?_
    refine code_block ?_
    refine code_seq ?_
    refine code_ops _ rfl ?_
    refine ol_pure rfl rfl rfl (pure_move rfl rfl) ?_
    refine ol_pure rfl rfl rfl (pure_assign rfl rfl) ?_
    refine ol_nil ?_
    refine spk 19 [(0,_),(1,_),(5,_),(7,_),(8,_)] [(1000001,_)] rfl rfl rfl ?_
    refine code_seq ?_
    refine code_ops _ rfl ?_
    refine ol_pure rfl rfl rfl (pure_move rfl rfl) ?_
    refine ol_pure rfl rfl rfl (pure_move rfl rfl) ?_
    refine ol_pure rfl rfl rfl (pure_move rfl rfl) ?_
    first | refine ol_pure rfl rfl rfl (pure_indexn rfl Tryz.underlying40 sz106 rfl rfl (by omega) (fun _ => rfl)) ?_ | refine ol_pure rfl rfl rfl (pure_indexm rfl Tryz.underlying40 sz106 rfl rfl (by omega) (fun _ => rfl)) ?_
    refine ol_pure rfl rfl rfl (pure_load_agg rfl ag106 sz106 rfl (Nat.le_of_ble_eq_true rfl)) ?_
    refine ol_step rfl (step_callO [(1000001, 1000001)] rfl rfl rfl rfl rfl rfl rfl (set3_call (x := l.getD k default)) ⟨.inl rfl, .inl rfl, trivial⟩ ⟨rfl, trivial⟩ rfl rfl rfl rfl rfl hM0) ?_
    refine ol_nil ?_
    refine spk 19 [(0,_),(1,_),(5,_),(7,_),(8,_),(16,_)] [(1000001,_)] rfl rfl rfl ?_
    refine code_cond rfl (fun h2 => ?_) (fun h2 => ?_)
    ·try simp only [dq] at h2
     refine code_seq ?_
     refine code_ops _ rfl ?_
     refine ol_pure rfl rfl rfl (pure_move rfl rfl) ?_
     refine ol_pure rfl rfl rfl (pure_assign rfl rfl) ?_
     refine ol_nil ?_
     refine spk 19 [(4,_)] [(1000001,_)] rfl rfl rfl ?_
     refine code_ret ?_
     refine blockQ_ret ?_
     refine seqQ_ret ?_
     refine loopM_ret ?_
     refine blockQ_ret ?_
     refine seqQ_ret ?_
     refine endO_ret (o1 := [(1000001, _)]) rfl ⟨rfl, trivial⟩ ?_
     rw [← idxF_hit (p := fun x : SetT => decide (x.name = name)) (l := l) (k := k) (by omega) hL1_1 (by simp_all)]; exact ⟨rfl, rfl⟩
    ·try simp only [dq] at h2
     refine code_skip ?_
     refine blockQ_normal ?_
     refine spk 19 [(0,_),(1,_),(7,_),(8,_)] [(1000001,_)] rfl rfl rfl ?_
     refine code_ops _ rfl ?_
     refine ol_pure rfl rfl rfl (pure_addi rfl rfl rfl (by omega)) ?_
     refine ol_pure rfl rfl rfl (pure_move rfl rfl) ?_
     refine ol_nil ?_
     refine loop_next (n := 19) (l := [(0, _), (1, _), (7, _), (8, _)]) (o' := [(1000001, _)]) rfl ⟨rfl, rfl, rfl, rfl, trivial⟩ ⟨rfl, trivial⟩ ?_
     exact ⟨_, ⟨k + 1, rfl, by omega, all_step hL1_1 (by simp_all), rfl⟩, by omega⟩
   ·try simp only [dq] at h1
    refine code_exit ?_
    refine seqQ_exit ?_
    refine loopM_exit ?_
    refine blockQ_same ?_
    refine spk 19 [] [(1000001,_)] rfl rfl rfl ?_
    refine code_seq ?_
    refine code_ops _ rfl ?_
    refine ol_pure rfl rfl rfl (pure_assign rfl rfl) ?_
    refine ol_nil ?_
    refine spk 19 [(4,_)] [(1000001,_)] rfl rfl rfl ?_
    refine code_ret ?_
    refine endO_ret (o1 := [(1000001, _)]) rfl ⟨rfl, trivial⟩ ?_
    rw [← idxF_none (p := fun x : SetT => decide (x.name = name)) (l := l) (fun j hj => hL1_1 j (by omega))]; exact ⟨rfl, rfl⟩
theorem fn88 : FnC Tryz.prog 88 Tryz.f88.ntmps 2 25 3 (Tryz.f88.body.getD .skip) := ⟨Tryz.f88, Tryz.func88, rfl, rfl, rfl, by kernel_rfl, ag25, sz25⟩
set_option maxRecDepth 100000 in
theorem tone_call (l : List Int) : CallN Tryz.prog 88 [ints l] (.p (rx (oneR l))) := by
  refine callN_of_codeC fn88 (Nat.le_of_ble_eq_true rfl) fun w0 M0 hM0 => ?_
  refine code_seq ?_
  refine code_ops _ rfl ?_
  refine ol_step rfl (step_alloc rfl rfl rfl rfl rfl ze25 rfl hM0) ?_
  refine ol_nil ?_
  refine spk 5 [(0,_),(2,_)] [(2,_)] rfl rfl rfl ?_
  refine code_seq ?_
  refine code_ops _ rfl ?_
  refine ol_pure rfl rfl rfl (pure_move rfl rfl) ?_
  refine ol_pure rfl rfl rfl (pure_build rfl pl25 ze25 rfl rfl rfl) ?_
  refine ol_step rfl (step_store_box rfl rfl rfl sz25 rfl rfl rfl rfl (by decide) rfl rfl hM0) ?_
  refine ol_nil ?_
  refine spk 5 [(2,_)] [(2,_)] rfl rfl rfl ?_
  refine code_ret ?_
  refine endC_ret rfl ?_
  rfl
abbrev outO (l : List Tok) (k : Int) : List (Nat × Ob) := [(10, .arr 76 (l.map tok)), (1000001, .box 70 [.own 10]), (1000002, .box 3 [.v .pl (int k)])]
theorem fn87 : Fn0 Tryz.prog 87 Tryz.f87.ntmps (Tryz.f87.body.getD .skip) := ⟨Tryz.f87, Tryz.func87, rfl, rfl, rfl, by kernel_rfl⟩
set_option maxRecDepth 100000 in
set_option maxHeartbeats 2000000 in
theorem tput_call {l : List Tok} {x : Rx} {c k n : Int} (hl : l.length ≤ 1099511627776) (hk : 0 ≤ k ∧ k ≤ 1099511627776) (hn : 0 ≤ n ∧ n ≤ 1099511627776) :
    CallO Tryz.prog 87 [.v .pl (.sc (.int .u8 c)), .v .pl (rx x), .v .pl (int n), .pbox 1000001 0, .pbox 1000002 0] (outO l k) (.v .pl (.tup [])) (outO (l ++ [⟨c, x, k⟩]) (k + n)) := by
  refine callO_of_code0 fn87 (Nat.le_of_ble_eq_true rfl) fun w0 M0 hM0 => ?_
  refine code_seq ?_
  refine code_ops _ rfl ?_
  refine ol_pure rfl rfl rfl (pure_box rfl rfl rfl hM0) ?_
  refine ol_nil ?_
  refine spk 18 [(0,_),(2,_),(3,_),(4,_),(6,_)] [(10,_),(1000001,_),(1000002,_)] rfl rfl rfl ?_
  refine code_seq ?_
  refine code_ops _ rfl ?_
  refine ol_pure rfl rfl rfl (pure_load_box rfl ag70 rfl rfl rfl) ?_
  refine ol_pure rfl rfl rfl (pure_move rfl rfl) ?_
  refine ol_pure rfl rfl rfl (pure_load_agg rfl ag25 sz25 rfl (Nat.le_of_ble_eq_true rfl)) ?_
  refine ol_pure rfl rfl rfl (pure_load_box rfl ag3 rfl rfl rfl) ?_
  refine ol_pure rfl rfl rfl (pure_build rfl pl76 ze76 rfl rfl rfl) ?_
  refine ol_pure rfl rfl rfl (pure_lit rfl Tryz.underlying70 el76 rfl rfl rfl rfl hM0) ?_
  refine ol_step rfl (step_append rfl rfl rfl rfl Tryz.underlying70 el76 rfl rfl hM0 (src_pl rfl (one_len (by rfl))) (by first | (simp only [ll]; omega) | omega) (by first | (simp only [ll]; omega) | omega)) ?_
  refine ol_step rfl (step_store_box_own rfl rfl rfl sz70 rfl rfl rfl rfl rfl hM0) ?_
  refine ol_nil ?_
  refine spk 18 [(2,_),(4,_)] [(10,_),(1000001,_),(1000002,_)] rfl rfl rfl ?_
  refine code_ops _ rfl ?_
  refine ol_pure rfl rfl rfl (pure_load_box rfl ag3 rfl rfl rfl) ?_
  refine ol_pure rfl rfl rfl (pure_move rfl rfl) ?_
  refine ol_pure rfl rfl rfl (pure_addi rfl rfl rfl (by omega)) ?_
  refine ol_step rfl (step_store_box rfl rfl rfl sz3 rfl rfl rfl rfl (by decide) rfl rfl hM0) ?_
  refine ol_nil ?_
  refine endO0_normal (o1 := [(10, _), (1000001, _), (1000002, _)]) ⟨rfl, rfl, rfl, trivial⟩ ?_
  unfold outO; rw [List.map_append]; rfl
end Go.Proofs.YtgdehkimfmfofaaGreat

