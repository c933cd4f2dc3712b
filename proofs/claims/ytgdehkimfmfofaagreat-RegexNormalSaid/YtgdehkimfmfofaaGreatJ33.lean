/-
  Contracts of the program's Key, Compare, Same, Section, Find.
-/
import Derived.Test.YtgdehkimfmfofaaGreatJ31
set_option linter.unusedVariables false
set_option linter.unusedSimpArgs false
namespace Go.Proofs.YtgdehkimfmfofaaGreat
open Go.Am Go.Wc
set_option linter.unusedVariables false
set_option linter.unusedSimpArgs false
theorem fn72 : Fn1 Tryz.prog 72 Tryz.f72.ntmps 2 (Tryz.f72.body.getD .skip) := ⟨Tryz.f72, Tryz.func72, rfl, rfl, rfl, by kernel_rfl⟩
set_option maxRecDepth 100000 in
set_option maxHeartbeats 4000000 in
theorem index_call {a : List Letter} (ha : a.length ≤ 1099511627776) (ht : ∀ x ∈ a, x.text.length ≤ 1099511627776) : CallF Tryz.prog 72 [letters a] (.p (indexAV a)) := by
  have htx : ∀ i : Nat, (a.getD i default).text.length ≤ 1099511627776 := fun i => by
    rw [List.getD_eq_getElem?_getD]
    cases hx : a[i]? with
    | none => exact Nat.zero_le _
    | some x => exact ht x (List.mem_of_getElem? hx)
  refine callF_of_code fn72 (Nat.le_of_ble_eq_true rfl) fun w0 M0 hM0 => ?_
  refine code_seq ?_
  refine code_ops _ rfl ?_
  refine ol_pure rfl rfl rfl (pure_assign rfl rfl) ?_
  refine ol_nil ?_
  refine spk 85 [(0,_)] [] rfl rfl rfl ?_
  refine code_seq ?_
  refine code_seq ?_
  refine code_ops _ rfl ?_
  refine ol_pure rfl rfl rfl (pure_move rfl rfl) ?_
  refine ol_pure rfl rfl rfl (pure_lenm rfl Tryz.underlying39 rfl) ?_
  refine ol_pure rfl rfl rfl (pure_call rfl rfl rfl (within_call) hM0) ?_
  refine ol_pure rfl rfl rfl (pure_not rfl rfl) ?_
  refine ol_nil ?_
  refine spk 85 [(0,_),(9,_)] [] rfl rfl rfl ?_
  refine code_cond rfl (fun h1 => ?_) (fun h1 => ?_)
  ·try simp only [dq] at h1
   refine code_seq ?_
   refine code_ops _ rfl ?_
   refine ol_pure rfl rfl rfl (pure_assign rfl rfl) ?_
   refine ol_nil ?_
   refine spk 85 [(2,_)] [] rfl rfl rfl ?_
   refine code_ret ?_
   refine seqQ_ret ?_
   refine end_ret rfl ?_
   rw [indexAV_bad (validA_size (by simp at h1; omega))]
  ·try simp only [dq] at h1
   refine code_skip ?_
   refine spk 85 [(0,_)] [] rfl rfl rfl ?_
   refine code_seq ?_
   refine code_ops _ rfl ?_
   refine ol_pure rfl rfl rfl (pure_move rfl rfl) ?_
   refine ol_pure rfl rfl rfl (pure_lenm rfl Tryz.underlying39 rfl) ?_
   refine ol_step rfl (step_map rfl rfl rfl rfl rfl Tryz.underlying88 (fun q hq => by cases hq; exact ⟨_, _, rfl⟩) hM0) ?_
   refine ol_pure rfl rfl rfl (pure_assign rfl rfl) ?_
   refine ol_nil ?_
   refine spk 85 [(0,_),(3,_)] [(12,_)] rfl rfl rfl ?_
   refine code_seq ?_
   refine code_seq ?_
   refine code_ops _ rfl ?_
   refine ol_pure rfl rfl rfl (pure_move rfl rfl) ?_
   refine ol_pure rfl rfl rfl (pure_lenm rfl Tryz.underlying39 rfl) ?_
   refine ol_pure rfl rfl rfl (pure_move rfl rfl) ?_
   refine ol_nil ?_
   refine spk 85 [(0,_),(3,_),(13,_),(14,_),(15,_)] [(12,_)] rfl rfl rfl ?_
   refine code_block ?_
   refine code_loopM (fun zm zs => ∃ i : Nat, zm = a.length - i ∧ (i ≤ a.length) ∧ (∀ j, j < i → ok1P a (a.getD j default) ∧ ok2P (a.getD j default) j) ∧ zs = ⟨85, [(0, .v .mx (letters a)), (3, .omap 12), (13, .v .mx (letters a)), (14, .v .pl (int a.length)), (15, .v .pl (int i))], [(12, .mp (ixK a i) (ixV a i))]⟩) (loop_init (n := 85) (l := [(0, _), (3, _), (13, _), (14, _), (15, _)]) (o' := [(12, _)]) rfl ⟨rfl, rfl, rfl, rfl, rfl, trivial⟩ ⟨rfl, trivial⟩ ?_) ?_
   ·exact ⟨_, 0, rfl, Nat.zero_le _, fun j hj => absurd hj (by omega), rfl⟩
   ·rintro zm zs ⟨i, rfl, hL1_0, hL1_1, rfl⟩
    refine code_seq ?_
    refine code_ops _ rfl ?_
    refine ol_pure rfl rfl rfl (pure_lss rfl rfl rfl) ?_
    refine ol_nil ?_
    refine spk 85 [(0,_),(3,_),(13,_),(14,_),(15,_),(16,_)] [(12,_)] rfl rfl rfl ?_
    refine code_seq ?_
    refine code_cond rfl (fun h2 => ?_) (fun h2 => ?_)
    ·try simp only [dq] at h2
     refine code_skip ?_
     refine spk 85 [(0,_),(3,_),(13,_),(14,_),(15,_)] [(12,_)] rfl rfl rfl ?_
     refine code_seq ?_
     refine code_block ?_
     refine code_seq ?_
     refine code_ops _ rfl ?_
     refine ol_pure rfl rfl rfl (pure_move rfl rfl) ?_
     first | refine ol_pure rfl rfl rfl (pure_indexn rfl Tryz.underlying39 sz83 rfl rfl (by omega) (fun _ => rfl)) ?_ | refine ol_pure rfl rfl rfl (pure_indexm rfl Tryz.underlying39 sz83 rfl rfl (by omega) (fun _ => rfl)) ?_
     refine ol_pure rfl rfl rfl (pure_load_agg rfl ag83 sz83 rfl (Nat.le_of_ble_eq_true rfl)) ?_
     refine ol_step rfl (step_alloc rfl rfl rfl rfl rfl ze83 rfl hM0) ?_
     refine ol_pure rfl rfl rfl (pure_assign rfl rfl) ?_
     refine ol_step rfl (step_store_box rfl rfl rfl sz83 rfl rfl rfl rfl (by decide) rfl rfl hM0) ?_
     refine ol_nil ?_
     refine spk 85 [(0,_),(3,_),(4,_),(5,_),(13,_),(14,_),(15,_)] [(5,_),(12,_)] rfl rfl rfl ?_
     refine code_seq ?_
     refine code_cut (fun zs => ∃ z : Bool, (z = true → ¬ ok1P a (a.getD i default)) ∧ (z = false → ok1P a (a.getD i default)) ∧ zs = ⟨85, [(0, .v .mx (letters a)), (3, .omap 12), (4, .v .pl (int i)), (5, .pbox 5 0), (13, .v .mx (letters a)), (14, .v .pl (int a.length)), (15, .v .pl (int i)), (61, .v .pl (bool z))], [(5, .box 83 (lcells .mx (a.getD i default))), (12, .mp (ixK a i) (ixV a i))]⟩) ?_ ?_
     ·skip
      refine code_draw mixed (by kernel_rfl) _ rfl ?_
      refine dl_pure rfl rfl rfl (pure_field_box rfl fd83_0 rfl rfl) ?_
      refine dl_pure rfl rfl rfl (pure_load_box rfl ag9 rfl rfl rfl) ?_
      refine dl_pure rfl rfl rfl (pure_call rfl rfl rfl (aplain_call (htx _)) hM0) ?_
      refine dl_pure rfl rfl rfl (pure_not rfl rfl) ?_
      refine dl_pure rfl rfl rfl (pure_move rfl rfl) ?_
      refine dl_guard rfl (fun h3 => ?_) (fun h3 => ?_)
      ·have h3' := h3; try simp only [dq] at h3'
       refine dl_skip_g rfl rfl h3 rfl rfl ?_
       refine dl_skip_g rfl rfl h3 rfl rfl ?_
       refine dpk 85 [(0,_),(3,_),(4,_),(5,_),(13,_),(14,_),(15,_),(24,_),(26,_)] [(5,_),(12,_)] rfl rfl rfl ?_
       refine dl_skip_g rfl rfl h3 rfl rfl ?_
       refine dl_skip_g rfl rfl h3 rfl rfl ?_
       refine dl_skip_g rfl rfl h3 rfl rfl ?_
       refine dl_skip_g rfl rfl h3 rfl rfl ?_
       refine dl_skip_g rfl rfl h3 rfl rfl ?_
       refine dl_pure rfl rfl rfl (pure_pick_t rfl rfl h3 rfl) ?_
       refine dl_pure rfl rfl rfl (pure_move rfl rfl) ?_
       refine dpk 85 [(0,_),(3,_),(4,_),(5,_),(13,_),(14,_),(15,_),(33,_)] [(5,_),(12,_)] rfl rfl rfl ?_
       refine dl_skip_g rfl rfl rfl rfl rfl ?_
       refine dl_skip_g rfl rfl rfl rfl rfl ?_
       refine dl_skip_g rfl rfl rfl rfl rfl ?_
       refine dl_skip_g rfl rfl rfl rfl rfl ?_
       refine dl_skip_g rfl rfl rfl rfl rfl ?_
       refine dl_skip_g rfl rfl rfl rfl rfl ?_
       refine dl_skip_g rfl rfl rfl rfl rfl ?_
       refine dpk 85 [(0,_),(3,_),(4,_),(5,_),(13,_),(14,_),(15,_),(33,_),(39,_),(40,_)] [(5,_),(12,_)] rfl rfl rfl ?_
       refine dl_skip_g rfl rfl rfl rfl rfl ?_
       refine dl_skip_g rfl rfl rfl rfl rfl ?_
       refine dl_pure rfl rfl rfl (pure_pick_t rfl rfl rfl rfl) ?_
       refine dl_pure rfl rfl rfl (pure_move rfl rfl) ?_
       refine dl_skip_g rfl rfl rfl rfl rfl ?_
       refine dl_skip_g rfl rfl rfl rfl rfl ?_
       refine dl_skip_g rfl rfl rfl rfl rfl ?_
       refine dpk 85 [(0,_),(3,_),(4,_),(5,_),(13,_),(14,_),(15,_),(44,_),(47,_)] [(5,_),(12,_)] rfl rfl rfl ?_
       refine dl_skip_g rfl rfl rfl rfl rfl ?_
       refine dl_pure rfl rfl rfl (pure_pick_t rfl rfl rfl rfl) ?_
       refine dl_pure rfl rfl rfl (pure_move rfl rfl) ?_
       refine dl_skip_g rfl rfl rfl rfl rfl ?_
       refine dl_skip_g rfl rfl rfl rfl rfl ?_
       refine dl_skip_g rfl rfl rfl rfl rfl ?_
       refine dl_skip_g rfl rfl rfl rfl rfl ?_
       refine dpk 85 [(0,_),(3,_),(4,_),(5,_),(13,_),(14,_),(15,_),(50,_),(54,_)] [(5,_),(12,_)] rfl rfl rfl ?_
       refine dl_pure rfl rfl rfl (pure_pick_t rfl rfl rfl rfl) ?_
       refine dl_pure rfl rfl rfl (pure_move rfl rfl) ?_
       refine dl_skip_g rfl rfl rfl rfl rfl ?_
       refine dl_skip_g rfl rfl rfl rfl rfl ?_
       refine dl_skip_g rfl rfl rfl rfl rfl ?_
       refine dl_skip_g rfl rfl rfl rfl rfl ?_
       refine dl_pure rfl rfl rfl (pure_pick_t rfl rfl rfl rfl) ?_
       refine dl_nil ?_
       refine cut_next (n := 85) (l := [(0, _), (3, _), (4, _), (5, _), (13, _), (14, _), (15, _), (61, _)]) (o' := [(5, _), (12, _)]) rfl ⟨rfl, rfl, rfl, rfl, rfl, rfl, rfl, rfl, trivial⟩ ⟨rfl, rfl, trivial⟩ ?_
       refine ⟨true, fun _ q => ?_, fun hz => (by cases hz), rfl⟩
       obtain ⟨q1, q2, q3, q4, q5, q6, q7, q8, q9, q10⟩ := q
       first | omega | simp_all
      ·have h3' := h3; try simp only [dq] at h3'
       refine dl_pure_g rfl rfl h3 rfl rfl (pure_field_box rfl fd83_1 rfl rfl) ?_
       refine dl_pure_g rfl rfl h3 rfl rfl (pure_load_box rfl ag3 rfl rfl rfl) ?_
       refine dpk 85 [(0,_),(3,_),(4,_),(5,_),(13,_),(14,_),(15,_),(24,_),(26,_)] [(5,_),(12,_)] rfl rfl rfl ?_
       refine dl_pure_g rfl rfl h3 rfl rfl (pure_move rfl rfl) ?_
       refine dl_pure_g rfl rfl h3 rfl rfl (pure_lenm rfl Tryz.underlying39 rfl) ?_
       refine dl_pure_g rfl rfl h3 rfl rfl (pure_subi rfl rfl rfl (by omega)) ?_
       refine dl_pure_g rfl rfl h3 rfl rfl (pure_call rfl rfl rfl (within_call) hM0) ?_
       refine dl_pure_g rfl rfl h3 rfl rfl (pure_not rfl rfl) ?_
       refine dl_pure rfl rfl rfl (pure_pick_f rfl rfl h3 rfl) ?_
       refine dl_pure rfl rfl rfl (pure_move rfl rfl) ?_
       refine dpk 85 [(0,_),(3,_),(4,_),(5,_),(13,_),(14,_),(15,_),(33,_)] [(5,_),(12,_)] rfl rfl rfl ?_
       refine dl_guard rfl (fun h4 => ?_) (fun h4 => ?_)
       ·have h4' := h4; try simp only [dq] at h4'
        refine dpk 85 [(0,_),(3,_),(4,_),(5,_),(13,_),(14,_),(15,_),(33,_)] [(5,_),(12,_)] rfl rfl rfl ?_
        refine dl_skip_g rfl rfl h4 rfl rfl ?_
        refine dl_skip_g rfl rfl h4 rfl rfl ?_
        refine dl_skip_g rfl rfl h4 rfl rfl ?_
        refine dl_skip_g rfl rfl h4 rfl rfl ?_
        refine dl_skip_g rfl rfl h4 rfl rfl ?_
        refine dl_skip_g rfl rfl h4 rfl rfl ?_
        refine dl_skip_g rfl rfl h4 rfl rfl ?_
        refine dpk 85 [(0,_),(3,_),(4,_),(5,_),(13,_),(14,_),(15,_),(33,_),(39,_),(40,_)] [(5,_),(12,_)] rfl rfl rfl ?_
        refine dl_skip_g rfl rfl h4 rfl rfl ?_
        refine dl_skip_g rfl rfl h4 rfl rfl ?_
        refine dl_pure rfl rfl rfl (pure_pick_t rfl rfl h4 rfl) ?_
        refine dl_pure rfl rfl rfl (pure_move rfl rfl) ?_
        refine dl_skip_g rfl rfl rfl rfl rfl ?_
        refine dl_skip_g rfl rfl rfl rfl rfl ?_
        refine dl_skip_g rfl rfl rfl rfl rfl ?_
        refine dpk 85 [(0,_),(3,_),(4,_),(5,_),(13,_),(14,_),(15,_),(44,_),(47,_)] [(5,_),(12,_)] rfl rfl rfl ?_
        refine dl_skip_g rfl rfl rfl rfl rfl ?_
        refine dl_pure rfl rfl rfl (pure_pick_t rfl rfl rfl rfl) ?_
        refine dl_pure rfl rfl rfl (pure_move rfl rfl) ?_
        refine dl_skip_g rfl rfl rfl rfl rfl ?_
        refine dl_skip_g rfl rfl rfl rfl rfl ?_
        refine dl_skip_g rfl rfl rfl rfl rfl ?_
        refine dl_skip_g rfl rfl rfl rfl rfl ?_
        refine dpk 85 [(0,_),(3,_),(4,_),(5,_),(13,_),(14,_),(15,_),(50,_),(54,_)] [(5,_),(12,_)] rfl rfl rfl ?_
        refine dl_pure rfl rfl rfl (pure_pick_t rfl rfl rfl rfl) ?_
        refine dl_pure rfl rfl rfl (pure_move rfl rfl) ?_
        refine dl_skip_g rfl rfl rfl rfl rfl ?_
        refine dl_skip_g rfl rfl rfl rfl rfl ?_
        refine dl_skip_g rfl rfl rfl rfl rfl ?_
        refine dl_skip_g rfl rfl rfl rfl rfl ?_
        refine dl_pure rfl rfl rfl (pure_pick_t rfl rfl rfl rfl) ?_
        refine dl_nil ?_
        refine cut_next (n := 85) (l := [(0, _), (3, _), (4, _), (5, _), (13, _), (14, _), (15, _), (61, _)]) (o' := [(5, _), (12, _)]) rfl ⟨rfl, rfl, rfl, rfl, rfl, rfl, rfl, rfl, trivial⟩ ⟨rfl, rfl, trivial⟩ ?_
        refine ⟨true, fun _ q => ?_, fun hz => (by cases hz), rfl⟩
        obtain ⟨q1, q2, q3, q4, q5, q6, q7, q8, q9, q10⟩ := q
        first | omega | simp_all
       ·have h4' := h4; try simp only [dq] at h4'
        refine dpk 85 [(0,_),(3,_),(4,_),(5,_),(13,_),(14,_),(15,_),(33,_)] [(5,_),(12,_)] rfl rfl rfl ?_
        refine dl_pure_g rfl rfl h4 rfl rfl (pure_move rfl rfl) ?_
        refine dl_pure_g rfl rfl h4 rfl rfl (pure_field_box rfl fd83_1 rfl rfl) ?_
        refine dl_pure_g rfl rfl h4 rfl rfl (pure_load_box rfl ag3 rfl rfl rfl) ?_
        first | refine dl_pure_g rfl rfl h4 rfl rfl (pure_indexn rfl Tryz.underlying39 sz83 rfl rfl (by omega) (fun _ => rfl)) ?_ | refine dl_pure_g rfl rfl h4 rfl rfl (pure_indexm rfl Tryz.underlying39 sz83 rfl rfl (by omega) (fun _ => rfl)) ?_
        refine dl_pure_g rfl rfl h4 rfl rfl (pure_field rfl fd83_1 rfl) ?_
        refine dl_pure_g rfl rfl h4 rfl rfl (pure_load rfl ag3 rfl rfl) ?_
        refine dl_pure_g rfl rfl h4 rfl rfl (pure_field_box rfl fd83_1 rfl rfl) ?_
        refine dpk 85 [(0,_),(3,_),(4,_),(5,_),(13,_),(14,_),(15,_),(33,_),(39,_),(40,_)] [(5,_),(12,_)] rfl rfl rfl ?_
        refine dl_pure_g rfl rfl h4 rfl rfl (pure_load_box rfl ag3 rfl rfl rfl) ?_
        refine dl_pure_g rfl rfl h4 rfl rfl (pure_neq rfl rfl rfl) ?_
        refine dl_pure rfl rfl rfl (pure_pick_f rfl rfl h4 rfl) ?_
        refine dl_pure rfl rfl rfl (pure_move rfl rfl) ?_
        refine dl_guard rfl (fun h5 => ?_) (fun h5 => ?_)
        ·have h5' := h5; try simp only [dq] at h5'
         refine dl_skip_g rfl rfl h5 rfl rfl ?_
         refine dl_skip_g rfl rfl h5 rfl rfl ?_
         refine dl_skip_g rfl rfl h5 rfl rfl ?_
         refine dpk 85 [(0,_),(3,_),(4,_),(5,_),(13,_),(14,_),(15,_),(44,_),(47,_)] [(5,_),(12,_)] rfl rfl rfl ?_
         refine dl_skip_g rfl rfl h5 rfl rfl ?_
         refine dl_pure rfl rfl rfl (pure_pick_t rfl rfl h5 rfl) ?_
         refine dl_pure rfl rfl rfl (pure_move rfl rfl) ?_
         refine dl_skip_g rfl rfl rfl rfl rfl ?_
         refine dl_skip_g rfl rfl rfl rfl rfl ?_
         refine dl_skip_g rfl rfl rfl rfl rfl ?_
         refine dl_skip_g rfl rfl rfl rfl rfl ?_
         refine dpk 85 [(0,_),(3,_),(4,_),(5,_),(13,_),(14,_),(15,_),(50,_),(54,_)] [(5,_),(12,_)] rfl rfl rfl ?_
         refine dl_pure rfl rfl rfl (pure_pick_t rfl rfl rfl rfl) ?_
         refine dl_pure rfl rfl rfl (pure_move rfl rfl) ?_
         refine dl_skip_g rfl rfl rfl rfl rfl ?_
         refine dl_skip_g rfl rfl rfl rfl rfl ?_
         refine dl_skip_g rfl rfl rfl rfl rfl ?_
         refine dl_skip_g rfl rfl rfl rfl rfl ?_
         refine dl_pure rfl rfl rfl (pure_pick_t rfl rfl rfl rfl) ?_
         refine dl_nil ?_
         refine cut_next (n := 85) (l := [(0, _), (3, _), (4, _), (5, _), (13, _), (14, _), (15, _), (61, _)]) (o' := [(5, _), (12, _)]) rfl ⟨rfl, rfl, rfl, rfl, rfl, rfl, rfl, rfl, trivial⟩ ⟨rfl, rfl, trivial⟩ ?_
         refine ⟨true, fun _ q => ?_, fun hz => (by cases hz), rfl⟩
         obtain ⟨q1, q2, q3, q4, q5, q6, q7, q8, q9, q10⟩ := q
         first | omega | simp_all
        ·have h5' := h5; try simp only [dq] at h5'
         refine dl_pure_g rfl rfl h5 rfl rfl (pure_field_box rfl fd83_2 rfl rfl) ?_
         refine dl_pure_g rfl rfl h5 rfl rfl (pure_load_box rfl ag3 rfl rfl rfl) ?_
         refine dl_pure_g rfl rfl h5 rfl rfl (pure_call rfl rfl rfl (within_call) hM0) ?_
         refine dpk 85 [(0,_),(3,_),(4,_),(5,_),(13,_),(14,_),(15,_),(44,_),(47,_)] [(5,_),(12,_)] rfl rfl rfl ?_
         refine dl_pure_g rfl rfl h5 rfl rfl (pure_not rfl rfl) ?_
         refine dl_pure rfl rfl rfl (pure_pick_f rfl rfl h5 rfl) ?_
         refine dl_pure rfl rfl rfl (pure_move rfl rfl) ?_
         refine dl_guard rfl (fun h6 => ?_) (fun h6 => ?_)
         ·have h6' := h6; try simp only [dq] at h6'
          refine dl_skip_g rfl rfl h6 rfl rfl ?_
          refine dl_skip_g rfl rfl h6 rfl rfl ?_
          refine dl_skip_g rfl rfl h6 rfl rfl ?_
          refine dl_skip_g rfl rfl h6 rfl rfl ?_
          refine dpk 85 [(0,_),(3,_),(4,_),(5,_),(13,_),(14,_),(15,_),(50,_),(54,_)] [(5,_),(12,_)] rfl rfl rfl ?_
          refine dl_pure rfl rfl rfl (pure_pick_t rfl rfl h6 rfl) ?_
          refine dl_pure rfl rfl rfl (pure_move rfl rfl) ?_
          refine dl_skip_g rfl rfl rfl rfl rfl ?_
          refine dl_skip_g rfl rfl rfl rfl rfl ?_
          refine dl_skip_g rfl rfl rfl rfl rfl ?_
          refine dl_skip_g rfl rfl rfl rfl rfl ?_
          refine dl_pure rfl rfl rfl (pure_pick_t rfl rfl rfl rfl) ?_
          refine dl_nil ?_
          refine cut_next (n := 85) (l := [(0, _), (3, _), (4, _), (5, _), (13, _), (14, _), (15, _), (61, _)]) (o' := [(5, _), (12, _)]) rfl ⟨rfl, rfl, rfl, rfl, rfl, rfl, rfl, rfl, trivial⟩ ⟨rfl, rfl, trivial⟩ ?_
          refine ⟨true, fun _ q => ?_, fun hz => (by cases hz), rfl⟩
          obtain ⟨q1, q2, q3, q4, q5, q6, q7, q8, q9, q10⟩ := q
          first | omega | simp_all
         ·have h6' := h6; try simp only [dq] at h6'
          refine dl_pure_g rfl rfl h6 rfl rfl (pure_field_box rfl fd83_3 rfl rfl) ?_
          refine dl_pure_g rfl rfl h6 rfl rfl (pure_load_box rfl ag3 rfl rfl rfl) ?_
          refine dl_pure_g rfl rfl h6 rfl rfl (pure_call rfl rfl rfl (within_call) hM0) ?_
          refine dl_pure_g rfl rfl h6 rfl rfl (pure_not rfl rfl) ?_
          refine dpk 85 [(0,_),(3,_),(4,_),(5,_),(13,_),(14,_),(15,_),(50,_),(54,_)] [(5,_),(12,_)] rfl rfl rfl ?_
          refine dl_pure rfl rfl rfl (pure_pick_f rfl rfl h6 rfl) ?_
          refine dl_pure rfl rfl rfl (pure_move rfl rfl) ?_
          refine dl_guard rfl (fun h7 => ?_) (fun h7 => ?_)
          ·have h7' := h7; try simp only [dq] at h7'
           refine dl_skip_g rfl rfl h7 rfl rfl ?_
           refine dl_skip_g rfl rfl h7 rfl rfl ?_
           refine dl_skip_g rfl rfl h7 rfl rfl ?_
           refine dl_skip_g rfl rfl h7 rfl rfl ?_
           refine dl_pure rfl rfl rfl (pure_pick_t rfl rfl h7 rfl) ?_
           refine dl_nil ?_
           refine cut_next (n := 85) (l := [(0, _), (3, _), (4, _), (5, _), (13, _), (14, _), (15, _), (61, _)]) (o' := [(5, _), (12, _)]) rfl ⟨rfl, rfl, rfl, rfl, rfl, rfl, rfl, rfl, trivial⟩ ⟨rfl, rfl, trivial⟩ ?_
           refine ⟨true, fun _ q => ?_, fun hz => (by cases hz), rfl⟩
           obtain ⟨q1, q2, q3, q4, q5, q6, q7, q8, q9, q10⟩ := q
           first | omega | simp_all
          ·have h7' := h7; try simp only [dq] at h7'
           refine dl_pure_g rfl rfl h7 rfl rfl (pure_field_box rfl fd83_4 rfl rfl) ?_
           refine dl_pure_g rfl rfl h7 rfl rfl (pure_load_box rfl ag3 rfl rfl rfl) ?_
           refine dl_pure_g rfl rfl h7 rfl rfl (pure_call rfl rfl rfl (within_call) hM0) ?_
           refine dl_pure_g rfl rfl h7 rfl rfl (pure_not rfl rfl) ?_
           refine dl_pure rfl rfl rfl (pure_pick_f rfl rfl h7 rfl) ?_
           refine dl_nil ?_
           refine cut_next (n := 85) (l := [(0, _), (3, _), (4, _), (5, _), (13, _), (14, _), (15, _), (61, _)]) (o' := [(5, _), (12, _)]) rfl ⟨rfl, rfl, rfl, rfl, rfl, rfl, rfl, rfl, trivial⟩ ⟨rfl, rfl, trivial⟩ ?_
           refine ⟨_, fun hz q => ?_, fun hz => ?_, rfl⟩
           · obtain ⟨q1, q2, q3, q4, q5, q6, q7, q8, q9, q10⟩ := q
             simp only [Bool.not_eq_true', Bool.and_eq_false_iff, decide_eq_false_iff_not] at hz; omega
           · simp only [Bool.not_eq_false', Bool.and_eq_true, decide_eq_true_eq] at hz; exact ⟨by simp_all, by omega, by omega, by omega, by omega, by omega, by omega, by omega, by omega, by omega⟩
     ·rintro zs ⟨z, hC8_0, hC8_1, rfl⟩
      refine code_cond rfl (fun h8 => ?_) (fun h8 => ?_)
      ·try simp only [dq] at h8
       refine code_seq ?_
       refine code_ops _ rfl ?_
       refine ol_pure rfl rfl rfl (pure_assign rfl rfl) ?_
       refine ol_nil ?_
       refine spk 85 [(2,_)] [] rfl rfl rfl ?_
       refine code_ret ?_
       refine seqQ_ret ?_
       refine blockQ_ret ?_
       refine seqQ_ret ?_
       refine loopM_ret ?_
       refine blockQ_ret ?_
       refine seqQ_ret ?_
       refine end_ret rfl ?_
       rw [indexAV_bad (validA_bad1 (i := i) (by omega) (hC8_0 (by assumption)))]
      ·try simp only [dq] at h8
       obtain ⟨o1, o2, o3, o4, o5, o6, o7, o8, o9, o10⟩ := hC8_1 (by assumption)
       refine code_skip ?_
       refine spk 85 [(0,_),(3,_),(4,_),(5,_),(13,_),(14,_),(15,_)] [(5,_),(12,_)] rfl rfl rfl ?_
       refine code_seq ?_
       refine code_cut (fun zs => ∃ z : Bool, (z = true → ¬ ok2P (a.getD i default) i) ∧ (z = false → ok2P (a.getD i default) i) ∧ zs = ⟨85, [(0, .v .mx (letters a)), (3, .omap 12), (4, .v .pl (int i)), (5, .pbox 5 0), (13, .v .mx (letters a)), (14, .v .pl (int a.length)), (15, .v .pl (int i)), (73, .v .pl (bool z))], [(5, .box 83 (lcells .mx (a.getD i default))), (12, .mp (ixK a i) (ixV a i))]⟩) ?_ ?_
       ·skip
        refine code_ops _ rfl ?_
        refine ol_pure rfl rfl rfl (pure_field_box rfl fd83_1 rfl rfl) ?_
        refine ol_pure rfl rfl rfl (pure_load_box rfl ag3 rfl rfl rfl) ?_
        refine ol_pure rfl rfl rfl (pure_move rfl rfl) ?_
        refine ol_pure rfl rfl rfl (pure_eql rfl rfl rfl) ?_
        refine ol_pure rfl rfl rfl (pure_move rfl rfl) ?_
        refine ol_guard rfl (fun h9 => ?_) (fun h9 => ?_)
        ·have h9' := h9; try simp only [dq] at h9'
         refine ol_pure_g rfl rfl h9 rfl rfl (pure_field_box rfl fd83_2 rfl rfl) ?_
         refine ol_pure_g rfl rfl h9 rfl rfl (pure_load_box rfl ag3 rfl rfl rfl) ?_
         refine opk 85 [(0,_),(3,_),(4,_),(5,_),(13,_),(14,_),(15,_),(66,_),(68,_)] [(5,_),(12,_)] rfl rfl rfl ?_
         refine ol_pure_g rfl rfl h9 rfl rfl (pure_field_box rfl fd83_3 rfl rfl) ?_
         refine ol_pure_g rfl rfl h9 rfl rfl (pure_load_box rfl ag3 rfl rfl rfl) ?_
         refine ol_pure_g rfl rfl h9 rfl rfl (pure_addi rfl rfl rfl (by omega)) ?_
         refine ol_pure_g rfl rfl h9 rfl rfl (pure_gtr rfl rfl rfl) ?_
         refine ol_pure rfl rfl rfl (pure_pick_t rfl rfl h9 rfl) ?_
         refine ol_nil ?_
         refine cut_next (n := 85) (l := [(0, _), (3, _), (4, _), (5, _), (13, _), (14, _), (15, _), (73, _)]) (o' := [(5, _), (12, _)]) rfl ⟨rfl, rfl, rfl, rfl, rfl, rfl, rfl, rfl, trivial⟩ ⟨rfl, rfl, trivial⟩ ?_
         refine ⟨_, fun hz q => ?_, fun hz => ?_, rfl⟩
         · have q1 := q (by omega); simp only [decide_eq_true_eq] at hz; omega
         · simp only [decide_eq_false_iff_not] at hz; intro _; omega
        ·have h9' := h9; try simp only [dq] at h9'
         refine ol_skip_g rfl rfl h9 rfl rfl ?_
         refine ol_skip_g rfl rfl h9 rfl rfl ?_
         refine opk 85 [(0,_),(3,_),(4,_),(5,_),(13,_),(14,_),(15,_),(66,_),(68,_)] [(5,_),(12,_)] rfl rfl rfl ?_
         refine ol_skip_g rfl rfl h9 rfl rfl ?_
         refine ol_skip_g rfl rfl h9 rfl rfl ?_
         refine ol_skip_g rfl rfl h9 rfl rfl ?_
         refine ol_skip_g rfl rfl h9 rfl rfl ?_
         refine ol_pure rfl rfl rfl (pure_pick_f rfl rfl h9 rfl) ?_
         refine ol_nil ?_
         refine cut_next (n := 85) (l := [(0, _), (3, _), (4, _), (5, _), (13, _), (14, _), (15, _), (73, _)]) (o' := [(5, _), (12, _)]) rfl ⟨rfl, rfl, rfl, rfl, rfl, rfl, rfl, rfl, trivial⟩ ⟨rfl, rfl, trivial⟩ ?_
         refine ⟨false, fun hz => (by cases hz), fun _ q => ?_, rfl⟩
         omega
       ·rintro zs ⟨z2, hC10_0, hC10_1, rfl⟩
        refine code_cond rfl (fun h10 => ?_) (fun h10 => ?_)
        ·try simp only [dq] at h10
         refine code_seq ?_
         refine code_ops _ rfl ?_
         refine ol_pure rfl rfl rfl (pure_assign rfl rfl) ?_
         refine ol_nil ?_
         refine spk 85 [(2,_)] [] rfl rfl rfl ?_
         refine code_ret ?_
         refine seqQ_ret ?_
         refine blockQ_ret ?_
         refine seqQ_ret ?_
         refine loopM_ret ?_
         refine blockQ_ret ?_
         refine seqQ_ret ?_
         refine end_ret rfl ?_
         rw [indexAV_bad (validA_bad2 (i := i) (by omega) (hC10_0 (by assumption)))]
        ·try simp only [dq] at h10
         refine code_skip ?_
         refine spk 85 [(0,_),(3,_),(4,_),(5,_),(13,_),(14,_),(15,_)] [(5,_),(12,_)] rfl rfl rfl ?_
         refine code_ops _ rfl ?_
         refine ol_pure rfl rfl rfl (pure_move rfl rfl) ?_
         refine ol_pure rfl rfl rfl (pure_field_box rfl fd83_0 rfl rfl) ?_
         refine ol_pure rfl rfl rfl (pure_load_box rfl ag9 rfl rfl rfl) ?_
         refine ol_pure rfl rfl rfl (pure_move rfl rfl) ?_
         refine ol_step rfl (step_put rfl rfl rfl Tryz.underlying88 Tryz.underlying9 rfl rfl rfl rfl trivial (ixK_isKey a i) hM0) ?_
         refine ol_nil ?_
         refine blockQ_normal ?_
         refine spk 85 [(0,_),(3,_),(13,_),(14,_),(15,_)] [(12,_)] rfl rfl rfl ?_
         refine code_ops _ rfl ?_
         refine ol_pure rfl rfl rfl (pure_addi rfl rfl rfl (by omega)) ?_
         refine ol_pure rfl rfl rfl (pure_move rfl rfl) ?_
         refine ol_nil ?_
         refine loop_next (n := 85) (l := [(0, _), (3, _), (13, _), (14, _), (15, _)]) (o' := [(12, _)]) rfl ⟨rfl, rfl, rfl, rfl, rfl, trivial⟩ ⟨rfl, trivial⟩ ?_
         exact ⟨_, ⟨i + 1, rfl, by omega, lt_step hL1_1 ⟨hC8_1 (by assumption), hC10_1 (by assumption)⟩, rfl⟩, by omega⟩
    ·try simp only [dq] at h2
     refine code_exit ?_
     refine seqQ_exit ?_
     refine loopM_exit ?_
     refine blockQ_same ?_
     refine spk 85 [(0,_),(3,_)] [(12,_)] rfl rfl rfl ?_
     refine code_seq ?_
     refine code_seq ?_
     refine code_ops _ rfl ?_
     refine ol_pure rfl rfl rfl (pure_move rfl rfl) ?_
     refine ol_pure rfl rfl rfl (pure_mlen rfl Tryz.underlying88 rfl) ?_
     refine ol_pure rfl rfl rfl (pure_move rfl rfl) ?_
     refine ol_pure rfl rfl rfl (pure_lenm rfl Tryz.underlying39 rfl) ?_
     refine ol_pure rfl rfl rfl (pure_lss rfl rfl rfl) ?_
     refine ol_nil ?_
     refine spk 85 [(3,_),(83,_)] [(12,_)] rfl rfl rfl ?_
     refine code_cond rfl (fun h11 => ?_) (fun h11 => ?_)
     ·try simp only [dq] at h11
      refine code_seq ?_
      refine code_ops _ rfl ?_
      refine ol_pure rfl rfl rfl (pure_assign rfl rfl) ?_
      refine ol_nil ?_
      refine spk 85 [(2,_)] [] rfl rfl rfl ?_
      refine code_ret ?_
      refine seqQ_ret ?_
      refine end_ret rfl ?_
      have hi : i = a.length := by omega
      rw [indexAV_bad (validA_dup (i := i) hi (by subst hi; omega))]
     ·try simp only [dq] at h11
      refine code_skip ?_
      refine spk 85 [(3,_)] [(12,_)] rfl rfl rfl ?_
      refine code_seq ?_
      refine code_ops _ rfl ?_
      refine ol_pure rfl rfl rfl (pure_move rfl rfl) ?_
      refine ol_pure rfl rfl rfl (pure_assign rfl rfl) ?_
      refine ol_nil ?_
      refine spk 85 [(2,_)] [(12,_)] rfl rfl rfl ?_
      refine code_ret ?_
      refine end_ret rfl ?_
      have hi : i = a.length := by omega
      rw [indexAV_good (i := i) (by omega) hi hL1_1 (by subst hi; omega)]
end Go.Proofs.YtgdehkimfmfofaaGreat

namespace Go.Proofs.YtgdehkimfmfofaaGreat
open Go.Am Go.Wc
set_option linter.unusedVariables false
set_option linter.unusedSimpArgs false
theorem fn43 : Fn1 Tryz.prog 43 Tryz.f43.ntmps 2 (Tryz.f43.body.getD .skip) := ⟨Tryz.f43, Tryz.func43, rfl, rfl, rfl, by kernel_rfl⟩
set_option maxRecDepth 100000 in
theorem validA_call0 {a : List Letter} (hi : CallF Tryz.prog 72 [letters a] (.p (.sc (.map none)))) : CallF Tryz.prog 43 [letters a] (.p (bool false)) := by
  refine callF_of_code fn43 (Nat.le_of_ble_eq_true rfl) fun w0 M0 hM0 => ?_
  refine code_seq ?_
  refine code_ops _ rfl ?_
  refine ol_pure rfl rfl rfl (pure_assign rfl rfl) ?_
  refine ol_nil ?_
  refine spk 6 [(0,_)] [] rfl rfl rfl ?_
  refine code_seq ?_
  refine code_ops _ rfl ?_
  refine ol_pure rfl rfl rfl (pure_move rfl rfl) ?_
  refine ol_pure rfl rfl rfl (pure_call rfl rfl rfl (hi) hM0) ?_
  refine ol_pure rfl rfl rfl (by first | exact pure_neq_mnil rfl Tryz.underlying88 rfl rfl | exact pure_neq_mnil0 rfl Tryz.underlying88 rfl rfl) ?_
  refine ol_pure rfl rfl rfl (pure_assign rfl rfl) ?_
  refine ol_nil ?_
  refine spk 6 [(2,_)] [] rfl rfl rfl ?_
  refine code_ret ?_
  refine end_ret rfl ?_
  rfl
set_option maxRecDepth 100000 in
theorem validA_call1 {a : List Letter} {ks : List Value} {vs : List AV} (hi : CallF Tryz.prog 72 [letters a] (.p (.mp ks vs))) : CallF Tryz.prog 43 [letters a] (.p (bool true)) := by
  refine callF_of_code fn43 (Nat.le_of_ble_eq_true rfl) fun w0 M0 hM0 => ?_
  refine code_seq ?_
  refine code_ops _ rfl ?_
  refine ol_pure rfl rfl rfl (pure_assign rfl rfl) ?_
  refine ol_nil ?_
  refine spk 6 [(0,_)] [] rfl rfl rfl ?_
  refine code_seq ?_
  refine code_ops _ rfl ?_
  refine ol_pure rfl rfl rfl (pure_move rfl rfl) ?_
  refine ol_pure rfl rfl rfl (pure_call rfl rfl rfl (hi) hM0) ?_
  refine ol_pure rfl rfl rfl (by first | exact pure_neq_mnil rfl Tryz.underlying88 rfl rfl | exact pure_neq_mnil0 rfl Tryz.underlying88 rfl rfl) ?_
  refine ol_pure rfl rfl rfl (pure_assign rfl rfl) ?_
  refine ol_nil ?_
  refine spk 6 [(2,_)] [] rfl rfl rfl ?_
  refine code_ret ?_
  refine end_ret rfl ?_
  rfl
theorem validA_call {a : List Letter} (ha : a.length ≤ 1099511627776) (ht : ∀ x ∈ a, x.text.length ≤ 1099511627776) : CallF Tryz.prog 43 [letters a] (.p (bool (validA a))) := by
  have hi := index_call ha ht
  unfold indexAV at hi
  cases hv : validA a
  · rw [hv, if_neg (by simp)] at hi
    exact validA_call0 hi
  · rw [hv, if_pos rfl] at hi
    exact validA_call1 hi
end Go.Proofs.YtgdehkimfmfofaaGreat

