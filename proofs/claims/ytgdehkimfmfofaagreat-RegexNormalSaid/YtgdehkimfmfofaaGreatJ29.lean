/-
  Contracts: normal forms of repetitions; copies and exchanges.
-/
import Derived.Test.YtgdehkimfmfofaaGreatJ21
import Derived.Test.YtgdehkimfmfofaaGreatJ13
import Derived.Test.YtgdehkimfmfofaaGreatJ14
import Derived.Test.YtgdehkimfmfofaaGreatJ15
set_option linter.unusedVariables false
set_option linter.unusedSimpArgs false
namespace Go.Proofs.YtgdehkimfmfofaaGreat
open Go.Am Go.Wb
set_option linter.unusedVariables false
set_option linter.unusedSimpArgs false
theorem fn80 : Fn1 Tryz.prog 80 Tryz.f80.ntmps 2 (Tryz.f80.body.getD .skip) := ⟨Tryz.f80, Tryz.func80, rfl, rfl, rfl, by kernel_rfl⟩
set_option maxRecDepth 100000 in
theorem clone_nil {c : Nat} : CallF Tryz.prog 80 [.sc (.slice none 0 c)] (.fresh 3 []) := by
  refine callF_of_code fn80 (Nat.le_of_ble_eq_true rfl) fun w0 M0 hM0 => ?_
  refine code_seq ?_
  refine code_ops _ rfl ?_
  refine ol_step rfl (step_nil rfl rfl rfl rfl rfl 3 hM0) ?_
  refine ol_nil ?_
  refine spk 8 [(0,_)] [] rfl rfl rfl ?_
  refine code_seq ?_
  refine code_seq ?_
  refine code_ops _ rfl ?_
  refine ol_pure rfl rfl rfl (pure_move rfl rfl) ?_
  refine ol_pure rfl rfl rfl (pure_eqsl rfl Tryz.underlying22 rfl rfl) ?_
  refine ol_nil ?_
  refine spk 8 [(0,_),(4,_)] [] rfl rfl rfl ?_
  refine code_cond_t rfl ?_
  refine code_seq ?_
  refine code_ops _ rfl ?_
  refine ol_step rfl (step_nil rfl rfl rfl rfl rfl 3 hM0) ?_
  refine ol_nil ?_
  refine spk 8 [(2,_)] [(2,_)] rfl rfl rfl ?_
  refine code_ret ?_
  refine seqQ_ret ?_
  refine end_ret rfl ?_
  rfl
set_option maxRecDepth 100000 in
theorem clone_none {a : Addr} {c : Nat} : CallF Tryz.prog 80 [.sc (.slice (some a) 0 c)] (.fresh 3 []) := by
  refine callF_of_code fn80 (Nat.le_of_ble_eq_true rfl) fun w0 M0 hM0 => ?_
  refine code_seq ?_
  refine code_ops _ rfl ?_
  refine ol_step rfl (step_nil rfl rfl rfl rfl rfl 3 hM0) ?_
  refine ol_nil ?_
  refine spk 8 [(0,_)] [] rfl rfl rfl ?_
  refine code_seq ?_
  refine code_seq ?_
  refine code_ops _ rfl ?_
  refine ol_pure rfl rfl rfl (pure_move rfl rfl) ?_
  refine ol_pure rfl rfl rfl (pure_eqsl rfl Tryz.underlying22 rfl rfl) ?_
  refine ol_nil ?_
  refine spk 8 [(0,_),(4,_)] [] rfl rfl rfl ?_
  refine code_cond_f rfl ?_
  refine code_skip ?_
  refine spk 8 [(0,_)] [] rfl rfl rfl ?_
  refine code_seq ?_
  refine code_ops _ rfl ?_
  refine ol_step rfl (step_lit0 rfl rfl rfl rfl rfl Tryz.underlying22 el3 hM0) ?_
  refine ol_pure rfl rfl rfl (pure_move rfl rfl) ?_
  refine ol_step rfl (step_append rfl rfl rfl rfl Tryz.underlying22 el3 rfl rfl hM0 (src_sc0 rfl) (by decide) (by decide)) ?_
  refine ol_pure rfl rfl rfl (pure_assign rfl rfl) ?_
  refine ol_nil ?_
  refine spk 8 [(2,_)] [(5,_)] rfl rfl rfl ?_
  refine code_ret ?_
  refine end_ret rfl ?_
  rfl
set_option maxRecDepth 100000 in
theorem clone_some {l : List Int} (hl : l.length ≤ 1099511627776) (h0 : 0 < l.length) : CallF Tryz.prog 80 [ints l] (.fresh 3 (l.map int)) := by
  refine callF_of_code fn80 (Nat.le_of_ble_eq_true rfl) fun w0 M0 hM0 => ?_
  refine code_seq ?_
  refine code_ops _ rfl ?_
  refine ol_step rfl (step_nil rfl rfl rfl rfl rfl 3 hM0) ?_
  refine ol_nil ?_
  refine spk 8 [(0,_)] [] rfl rfl rfl ?_
  refine code_seq ?_
  refine code_seq ?_
  refine code_ops _ rfl ?_
  refine ol_pure rfl rfl rfl (pure_move rfl rfl) ?_
  refine ol_pure rfl rfl rfl (pure_eqsl_ne rfl Tryz.underlying22 rfl rfl (by simp only [List.length_map]; exact h0)) ?_
  refine ol_nil ?_
  refine spk 8 [(0,_),(4,_)] [] rfl rfl rfl ?_
  refine code_cond_f rfl ?_
  refine code_skip ?_
  refine spk 8 [(0,_)] [] rfl rfl rfl ?_
  refine code_seq ?_
  refine code_ops _ rfl ?_
  refine ol_step rfl (step_lit0 rfl rfl rfl rfl rfl Tryz.underlying22 el3 hM0) ?_
  refine ol_pure rfl rfl rfl (pure_move rfl rfl) ?_
  refine ol_step rfl (step_append rfl rfl rfl rfl Tryz.underlying22 el3 rfl rfl hM0 (src_scm rfl (fun _ => ⟨_, rfl⟩)) (by simp only [List.length_map, List.length_nil]; omega) (by simp only [List.length_map, List.length_nil]; omega)) ?_
  refine ol_pure rfl rfl rfl (pure_assign rfl rfl) ?_
  refine ol_nil ?_
  refine spk 8 [(2,_)] [(5,_)] rfl rfl rfl ?_
  refine code_ret ?_
  refine end_ret rfl ?_
  rfl
theorem clone_call {l : List Int} (hl : l.length ≤ 1099511627776) : CallF Tryz.prog 80 [ints l] (.fresh 3 (l.map int)) := by
  rcases Nat.eq_zero_or_pos l.length with h | h
  · have hl0 : l = [] := List.eq_nil_of_length_eq_zero h
    subst hl0
    refine ⟨(clone_nil (c := 0)).1, fun w vs hv hr => ?_⟩
    match vs, hv with
    | [v], _ =>
      have h0 := hr 0 _ rfl
      simp only [List.getD_cons_zero] at h0
      generalize hq : ints [] = q at h0
      cases h0 with
      | sl a n cap xs k cv hn hc hk hb hl2 hr2 =>
        simp only [ints, List.map_nil, AV.sl.injEq] at hq
        subst hq
        simp only [List.length_nil] at hn
        subst hn
        have one : ∀ z : Value, z.oneCell' = true → ∀ (j : Nat) d, [AV.sc z][j]? = some d → Rep w (fun _ => False) ([z].getD j undef) d := fun z hz j d hd => by
          match j with
          | 0 => simp at hd; subst hd; exact .sc _ hz
          | j + 1 => simp at hd
        cases a with
        | none => exact (clone_nil (c := cap)).2 w [.slice none 0 cap] rfl (one _ rfl)
        | some ad => exact (clone_none (a := ad) (c := cap)).2 w [.slice (some ad) 0 cap] rfl (one _ rfl)
      | _ => cases hq
  · exact clone_some hl h
theorem fn79 : FnC Tryz.prog 79 Tryz.f79.ntmps 2 25 3 (Tryz.f79.body.getD .skip) := ⟨Tryz.f79, Tryz.func79, rfl, rfl, rfl, by kernel_rfl, ag25, sz25⟩
set_option maxRecDepth 100000 in
set_option maxHeartbeats 2000000 in
theorem star_call {x : Rx} (h4 : x.kind = 4 → 0 < x.kids.length) : CallN Tryz.prog 79 [rx x] (.p (rx (starN x))) := by
  rw [rx_eq x]
  refine callN_of_codeC fn79 (Nat.le_of_ble_eq_true rfl) fun w0 M0 hM0 => ?_
  refine code_seq ?_
  refine code_ops _ rfl ?_
  refine ol_step rfl (step_box rfl rfl rfl rfl rfl rfl rfl (by decide) hM0) ?_
  refine ol_step rfl (step_alloc rfl rfl rfl rfl rfl ze25 rfl hM0) ?_
  refine ol_nil ?_
  refine spk 38 [(1,_),(2,_)] [(1,_),(2,_)] rfl rfl rfl ?_
  refine code_seq ?_
  refine code_seq ?_
  refine code_ops _ rfl ?_
  refine ol_pure rfl rfl rfl (pure_field_box rfl fd25_0 rfl rfl) ?_
  refine ol_pure rfl rfl rfl (pure_load_box rfl ag3 rfl rfl rfl) ?_
  refine ol_nil ?_
  refine spk 38 [(1,_),(2,_),(4,_)] [(1,_),(2,_)] rfl rfl rfl ?_
  refine code_block ?_
  refine code_seq ?_
  refine code_seq ?_
  refine code_ops _ rfl ?_
  refine ol_pure rfl rfl rfl (pure_eql rfl rfl rfl) ?_
  refine ol_pure rfl rfl rfl (pure_assign rfl rfl) ?_
  refine ol_nil ?_
  refine spk 38 [(1,_),(2,_),(4,_),(5,_)] [(1,_),(2,_)] rfl rfl rfl ?_
  refine code_cond rfl (fun h1 => ?_) (fun h1 => ?_)
  ·try simp only [dq] at h1
   refine code_skip ?_
   refine spk 38 [(1,_),(2,_),(4,_),(5,_)] [(1,_),(2,_)] rfl rfl rfl ?_
   refine code_cond rfl (fun h2 => ?_) (fun h2 => ?_)
   ·try simp only [dq] at h2
    refine code_seq ?_
    refine code_ops _ rfl ?_
    refine ol_pure rfl rfl rfl (pure_build rfl pl25 ze25 rfl rfl rfl) ?_
    refine ol_step rfl (step_store_box rfl rfl rfl sz25 rfl rfl rfl rfl (by decide) rfl rfl hM0) ?_
    refine ol_nil ?_
    refine spk 38 [(2,_)] [(2,_)] rfl rfl rfl ?_
    refine code_ret ?_
    refine blockQ_ret ?_
    refine seqQ_ret ?_
    refine endC_ret rfl ?_
    try simp only [Int.toNat_zero, Int.toNat_one, List.length_drop] at *
    first
      | (exfalso; omega)
      | (rw [starN_e (by omega)]; rfl)
      | (rw [starN_5 (by omega), rx_eq x])
      | (rw [starN_x (by omega) (by omega), starB_n (by omega), rx_mk, rxs_one, rx_eq x]; rfl)
      | (rw [starN_x (by omega) (by omega), starB_2 (by omega) (by omega), rx_mk, ← getD_drop1]; rfl)
      | (rw [starN_x (by omega) (by omega), starB_m (by omega) (by omega), rx_mk, rxs_one, rx_mk']; rfl)
   ·try simp only [dq] at h2
    refine code_seq ?_
    refine code_ops _ rfl ?_
    refine ol_pure rfl rfl rfl (pure_eql rfl rfl rfl) ?_
    refine ol_pure rfl rfl rfl (pure_assign rfl rfl) ?_
    refine ol_nil ?_
    refine spk 38 [(1,_),(2,_),(9,_)] [(1,_),(2,_)] rfl rfl rfl ?_
    refine code_cond rfl (fun h3 => ?_) (fun h3 => ?_)
    ·try simp only [dq] at h3
     refine code_seq ?_
     refine code_ops _ rfl ?_
     refine ol_pure rfl rfl rfl (pure_load_box_agg rfl ag25 sz25 rfl rfl rfl rfl) ?_
     refine ol_step rfl (step_store_box rfl rfl rfl sz25 rfl rfl rfl rfl (by decide) rfl rfl hM0) ?_
     refine ol_nil ?_
     refine spk 38 [(2,_)] [(2,_)] rfl rfl rfl ?_
     refine code_ret ?_
     refine blockQ_ret ?_
     refine seqQ_ret ?_
     refine endC_ret rfl ?_
     try simp only [Int.toNat_zero, Int.toNat_one, List.length_drop] at *
     first
       | (exfalso; omega)
       | (rw [starN_e (by omega)]; rfl)
       | (rw [starN_5 (by omega), rx_eq x])
       | (rw [starN_x (by omega) (by omega), starB_n (by omega), rx_mk, rxs_one, rx_eq x]; rfl)
       | (rw [starN_x (by omega) (by omega), starB_2 (by omega) (by omega), rx_mk, ← getD_drop1]; rfl)
       | (rw [starN_x (by omega) (by omega), starB_m (by omega) (by omega), rx_mk, rxs_one, rx_mk']; rfl)
    ·try simp only [dq] at h3
     refine code_skip ?_
     refine blockQ_normal ?_
     refine spk 38 [(1,_),(2,_)] [(1,_),(2,_)] rfl rfl rfl ?_
     refine code_seq ?_
     refine code_seq ?_
     refine code_ops _ rfl ?_
     refine ol_pure rfl rfl rfl (pure_field_box rfl fd25_0 rfl rfl) ?_
     refine ol_pure rfl rfl rfl (pure_load_box rfl ag3 rfl rfl rfl) ?_
     refine ol_pure rfl rfl rfl (pure_eql rfl rfl rfl) ?_
     refine ol_pure rfl rfl rfl (pure_move rfl rfl) ?_
     refine ol_guard rfl (fun h4 => ?_) (fun h4 => ?_)
     ·have h4' := h4; try simp only [dq] at h4'
      refine ol_pure_g rfl rfl h4 rfl rfl (pure_field_box rfl fd25_2 rfl rfl) ?_
      refine ol_pure_g rfl rfl h4 rfl rfl (pure_load_box rfl ag23 rfl rfl rfl) ?_
      first | refine ol_pure_g rfl rfl h4 rfl rfl (pure_indexn rfl Tryz.underlying23 sz25 rfl rfl (by omega) (fun _ => rfl)) ?_ | refine ol_pure_g rfl rfl h4 rfl rfl (pure_indexm rfl Tryz.underlying23 sz25 rfl rfl (by omega) (fun _ => rfl)) ?_
      refine opk 38 [(1,_),(2,_),(15,_),(18,_)] [(1,_),(2,_)] rfl rfl rfl ?_
      refine ol_pure_g rfl rfl h4 rfl rfl (pure_field rfl fd25_0 rfl) ?_
      refine ol_pure_g rfl rfl h4 rfl rfl (pure_load rfl ag3 rfl rfl) ?_
      refine ol_pure_g rfl rfl h4 rfl rfl (pure_eql rfl rfl rfl) ?_
      refine ol_pure rfl rfl rfl (pure_pick_t rfl rfl h4 rfl) ?_
      refine ol_nil ?_
      refine spk 38 [(1,_),(2,_),(22,_)] [(1,_),(2,_)] rfl rfl rfl ?_
      refine code_cond rfl (fun h5 => ?_) (fun h5 => ?_)
      ·try simp only [dq] at h5
       refine code_seq ?_
       refine code_ops _ rfl ?_
       refine ol_pure rfl rfl rfl (pure_field_box rfl fd25_2 rfl rfl) ?_
       refine ol_pure rfl rfl rfl (pure_load_box rfl ag23 rfl rfl rfl) ?_
       refine ol_pure rfl rfl rfl (pure_slice_lm rfl Tryz.underlying23 sz25 rfl rfl (by first | (simp only [ll]; omega) | omega) (fun _ => rfl)) ?_
       refine ol_pure rfl rfl rfl (pure_field_box rfl fd25_2 rfl rfl) ?_
       refine ol_step rfl (step_store_box rfl rfl rfl sz23 rfl rfl rfl rfl (by decide) rfl rfl hM0) ?_
       refine ol_nil ?_
       refine spk 38 [(1,_),(2,_)] [(1,_),(2,_)] rfl rfl rfl ?_
       refine code_seq ?_
       refine code_ops _ rfl ?_
       refine ol_pure rfl rfl rfl (pure_field_box rfl fd25_2 rfl rfl) ?_
       refine ol_pure rfl rfl rfl (pure_load_box rfl ag23 rfl rfl rfl) ?_
       refine ol_pure rfl rfl rfl (pure_lenm rfl Tryz.underlying23 rfl) ?_
       refine ol_pure rfl rfl rfl (pure_eql rfl rfl rfl) ?_
       refine ol_nil ?_
       refine spk 38 [(1,_),(2,_),(30,_)] [(1,_),(2,_)] rfl rfl rfl ?_
       refine code_cond rfl (fun h6 => ?_) (fun h6 => ?_)
       ·try simp only [dq] at h6
        refine code_ops _ rfl ?_
        refine ol_pure rfl rfl rfl (pure_field_box rfl fd25_2 rfl rfl) ?_
        refine ol_pure rfl rfl rfl (pure_load_box rfl ag23 rfl rfl rfl) ?_
        first | refine ol_pure rfl rfl rfl (pure_indexn rfl Tryz.underlying23 sz25 rfl rfl (by omega) (fun _ => rfl)) ?_ | refine ol_pure rfl rfl rfl (pure_indexm rfl Tryz.underlying23 sz25 rfl rfl (by omega) (fun _ => rfl)) ?_
        refine ol_pure rfl rfl rfl (pure_load_agg rfl ag25 sz25 rfl (Nat.le_of_ble_eq_true rfl)) ?_
        refine ol_step rfl (step_store_box rfl rfl rfl sz25 rfl rfl rfl rfl (by decide) rfl rfl hM0) ?_
        refine ol_nil ?_
        refine spk 38 [(1,_),(2,_)] [(1,_),(2,_)] rfl rfl rfl ?_
        refine code_seq ?_
        refine code_ops _ rfl ?_
        refine ol_pure rfl rfl rfl (pure_load_box_agg rfl ag25 sz25 rfl rfl rfl rfl) ?_
        refine ol_pure rfl rfl rfl (pure_lit rfl Tryz.underlying23 el25 rfl rfl rfl rfl hM0) ?_
        refine ol_pure rfl rfl rfl (pure_build rfl pl25 ze25 rfl rfl rfl) ?_
        refine ol_step rfl (step_store_box rfl rfl rfl sz25 rfl rfl rfl rfl (by decide) rfl rfl hM0) ?_
        refine ol_nil ?_
        refine spk 38 [(2,_)] [(2,_)] rfl rfl rfl ?_
        refine code_ret ?_
        refine endC_ret rfl ?_
        try simp only [Int.toNat_zero, Int.toNat_one, List.length_drop] at *
        first
          | (exfalso; omega)
          | (rw [starN_e (by omega)]; rfl)
          | (rw [starN_5 (by omega), rx_eq x])
          | (rw [starN_x (by omega) (by omega), starB_n (by omega), rx_mk, rxs_one, rx_eq x]; rfl)
          | (rw [starN_x (by omega) (by omega), starB_2 (by omega) (by omega), rx_mk, ← getD_drop1]; rfl)
          | (rw [starN_x (by omega) (by omega), starB_m (by omega) (by omega), rx_mk, rxs_one, rx_mk']; rfl)
       ·try simp only [dq] at h6
        refine code_skip ?_
        refine spk 38 [(1,_),(2,_)] [(1,_),(2,_)] rfl rfl rfl ?_
        refine code_seq ?_
        refine code_ops _ rfl ?_
        refine ol_pure rfl rfl rfl (pure_load_box_agg rfl ag25 sz25 rfl rfl rfl rfl) ?_
        refine ol_pure rfl rfl rfl (pure_lit rfl Tryz.underlying23 el25 rfl rfl rfl rfl hM0) ?_
        refine ol_pure rfl rfl rfl (pure_build rfl pl25 ze25 rfl rfl rfl) ?_
        refine ol_step rfl (step_store_box rfl rfl rfl sz25 rfl rfl rfl rfl (by decide) rfl rfl hM0) ?_
        refine ol_nil ?_
        refine spk 38 [(2,_)] [(2,_)] rfl rfl rfl ?_
        refine code_ret ?_
        refine endC_ret rfl ?_
        try simp only [Int.toNat_zero, Int.toNat_one, List.length_drop] at *
        first
          | (exfalso; omega)
          | (rw [starN_e (by omega)]; rfl)
          | (rw [starN_5 (by omega), rx_eq x])
          | (rw [starN_x (by omega) (by omega), starB_n (by omega), rx_mk, rxs_one, rx_eq x]; rfl)
          | (rw [starN_x (by omega) (by omega), starB_2 (by omega) (by omega), rx_mk, ← getD_drop1]; rfl)
          | (rw [starN_x (by omega) (by omega), starB_m (by omega) (by omega), rx_mk, rxs_one, rx_mk']; rfl)
      ·try simp only [dq] at h5
       refine code_skip ?_
       refine spk 38 [(1,_),(2,_)] [(1,_),(2,_)] rfl rfl rfl ?_
       refine code_seq ?_
       refine code_ops _ rfl ?_
       refine ol_pure rfl rfl rfl (pure_load_box_agg rfl ag25 sz25 rfl rfl rfl rfl) ?_
       refine ol_pure rfl rfl rfl (pure_lit rfl Tryz.underlying23 el25 rfl rfl rfl rfl hM0) ?_
       refine ol_pure rfl rfl rfl (pure_build rfl pl25 ze25 rfl rfl rfl) ?_
       refine ol_step rfl (step_store_box rfl rfl rfl sz25 rfl rfl rfl rfl (by decide) rfl rfl hM0) ?_
       refine ol_nil ?_
       refine spk 38 [(2,_)] [(2,_)] rfl rfl rfl ?_
       refine code_ret ?_
       refine endC_ret rfl ?_
       try simp only [Int.toNat_zero, Int.toNat_one, List.length_drop] at *
       first
         | (exfalso; omega)
         | (rw [starN_e (by omega)]; rfl)
         | (rw [starN_5 (by omega), rx_eq x])
         | (rw [starN_x (by omega) (by omega), starB_n (by omega), rx_mk, rxs_one, rx_eq x]; rfl)
         | (rw [starN_x (by omega) (by omega), starB_2 (by omega) (by omega), rx_mk, ← getD_drop1]; rfl)
         | (rw [starN_x (by omega) (by omega), starB_m (by omega) (by omega), rx_mk, rxs_one, rx_mk']; rfl)
     ·have h4' := h4; try simp only [dq] at h4'
      refine ol_skip_g rfl rfl h4 rfl rfl ?_
      refine ol_skip_g rfl rfl h4 rfl rfl ?_
      refine ol_skip_g rfl rfl h4 rfl rfl ?_
      refine opk 38 [(1,_),(2,_),(15,_),(18,_)] [(1,_),(2,_)] rfl rfl rfl ?_
      refine ol_skip_g rfl rfl h4 rfl rfl ?_
      refine ol_skip_g rfl rfl h4 rfl rfl ?_
      refine ol_skip_g rfl rfl h4 rfl rfl ?_
      refine ol_pure rfl rfl rfl (pure_pick_f rfl rfl h4 rfl) ?_
      refine ol_nil ?_
      refine spk 38 [(1,_),(2,_),(22,_)] [(1,_),(2,_)] rfl rfl rfl ?_
      refine code_cond_f rfl ?_
      refine code_skip ?_
      refine spk 38 [(1,_),(2,_)] [(1,_),(2,_)] rfl rfl rfl ?_
      refine code_seq ?_
      refine code_ops _ rfl ?_
      refine ol_pure rfl rfl rfl (pure_load_box_agg rfl ag25 sz25 rfl rfl rfl rfl) ?_
      refine ol_pure rfl rfl rfl (pure_lit rfl Tryz.underlying23 el25 rfl rfl rfl rfl hM0) ?_
      refine ol_pure rfl rfl rfl (pure_build rfl pl25 ze25 rfl rfl rfl) ?_
      refine ol_step rfl (step_store_box rfl rfl rfl sz25 rfl rfl rfl rfl (by decide) rfl rfl hM0) ?_
      refine ol_nil ?_
      refine spk 38 [(2,_)] [(2,_)] rfl rfl rfl ?_
      refine code_ret ?_
      refine endC_ret rfl ?_
      try simp only [Int.toNat_zero, Int.toNat_one, List.length_drop] at *
      first
        | (exfalso; omega)
        | (rw [starN_e (by omega)]; rfl)
        | (rw [starN_5 (by omega), rx_eq x])
        | (rw [starN_x (by omega) (by omega), starB_n (by omega), rx_mk, rxs_one, rx_eq x]; rfl)
        | (rw [starN_x (by omega) (by omega), starB_2 (by omega) (by omega), rx_mk, ← getD_drop1]; rfl)
        | (rw [starN_x (by omega) (by omega), starB_m (by omega) (by omega), rx_mk, rxs_one, rx_mk']; rfl)
  ·try simp only [dq] at h1
   refine code_ops _ rfl ?_
   refine ol_pure rfl rfl rfl (pure_eql rfl rfl rfl) ?_
   refine ol_pure rfl rfl rfl (pure_assign rfl rfl) ?_
   refine ol_nil ?_
   refine spk 38 [(1,_),(2,_),(4,_),(5,_)] [(1,_),(2,_)] rfl rfl rfl ?_
   refine code_cond rfl (fun h7 => ?_) (fun h7 => ?_)
   ·try simp only [dq] at h7
    refine code_seq ?_
    refine code_ops _ rfl ?_
    refine ol_pure rfl rfl rfl (pure_build rfl pl25 ze25 rfl rfl rfl) ?_
    refine ol_step rfl (step_store_box rfl rfl rfl sz25 rfl rfl rfl rfl (by decide) rfl rfl hM0) ?_
    refine ol_nil ?_
    refine spk 38 [(2,_)] [(2,_)] rfl rfl rfl ?_
    refine code_ret ?_
    refine blockQ_ret ?_
    refine seqQ_ret ?_
    refine endC_ret rfl ?_
    try simp only [Int.toNat_zero, Int.toNat_one, List.length_drop] at *
    first
      | (exfalso; omega)
      | (rw [starN_e (by omega)]; rfl)
      | (rw [starN_5 (by omega), rx_eq x])
      | (rw [starN_x (by omega) (by omega), starB_n (by omega), rx_mk, rxs_one, rx_eq x]; rfl)
      | (rw [starN_x (by omega) (by omega), starB_2 (by omega) (by omega), rx_mk, ← getD_drop1]; rfl)
      | (rw [starN_x (by omega) (by omega), starB_m (by omega) (by omega), rx_mk, rxs_one, rx_mk']; rfl)
   ·try simp only [dq] at h7
    refine code_seq ?_
    refine code_ops _ rfl ?_
    refine ol_pure rfl rfl rfl (pure_eql rfl rfl rfl) ?_
    refine ol_pure rfl rfl rfl (pure_assign rfl rfl) ?_
    refine ol_nil ?_
    refine spk 38 [(1,_),(2,_),(9,_)] [(1,_),(2,_)] rfl rfl rfl ?_
    refine code_cond rfl (fun h8 => ?_) (fun h8 => ?_)
    ·try simp only [dq] at h8
     refine code_seq ?_
     refine code_ops _ rfl ?_
     refine ol_pure rfl rfl rfl (pure_load_box_agg rfl ag25 sz25 rfl rfl rfl rfl) ?_
     refine ol_step rfl (step_store_box rfl rfl rfl sz25 rfl rfl rfl rfl (by decide) rfl rfl hM0) ?_
     refine ol_nil ?_
     refine spk 38 [(2,_)] [(2,_)] rfl rfl rfl ?_
     refine code_ret ?_
     refine blockQ_ret ?_
     refine seqQ_ret ?_
     refine endC_ret rfl ?_
     try simp only [Int.toNat_zero, Int.toNat_one, List.length_drop] at *
     first
       | (exfalso; omega)
       | (rw [starN_e (by omega)]; rfl)
       | (rw [starN_5 (by omega), rx_eq x])
       | (rw [starN_x (by omega) (by omega), starB_n (by omega), rx_mk, rxs_one, rx_eq x]; rfl)
       | (rw [starN_x (by omega) (by omega), starB_2 (by omega) (by omega), rx_mk, ← getD_drop1]; rfl)
       | (rw [starN_x (by omega) (by omega), starB_m (by omega) (by omega), rx_mk, rxs_one, rx_mk']; rfl)
    ·try simp only [dq] at h8
     refine code_skip ?_
     refine blockQ_normal ?_
     refine spk 38 [(1,_),(2,_)] [(1,_),(2,_)] rfl rfl rfl ?_
     refine code_seq ?_
     refine code_seq ?_
     refine code_ops _ rfl ?_
     refine ol_pure rfl rfl rfl (pure_field_box rfl fd25_0 rfl rfl) ?_
     refine ol_pure rfl rfl rfl (pure_load_box rfl ag3 rfl rfl rfl) ?_
     refine ol_pure rfl rfl rfl (pure_eql rfl rfl rfl) ?_
     refine ol_pure rfl rfl rfl (pure_move rfl rfl) ?_
     refine ol_guard rfl (fun h9 => ?_) (fun h9 => ?_)
     ·have h9' := h9; try simp only [dq] at h9'
      refine ol_pure_g rfl rfl h9 rfl rfl (pure_field_box rfl fd25_2 rfl rfl) ?_
      refine ol_pure_g rfl rfl h9 rfl rfl (pure_load_box rfl ag23 rfl rfl rfl) ?_
      first | refine ol_pure_g rfl rfl h9 rfl rfl (pure_indexn rfl Tryz.underlying23 sz25 rfl rfl (by omega) (fun _ => rfl)) ?_ | refine ol_pure_g rfl rfl h9 rfl rfl (pure_indexm rfl Tryz.underlying23 sz25 rfl rfl (by omega) (fun _ => rfl)) ?_
      refine opk 38 [(1,_),(2,_),(15,_),(18,_)] [(1,_),(2,_)] rfl rfl rfl ?_
      refine ol_pure_g rfl rfl h9 rfl rfl (pure_field rfl fd25_0 rfl) ?_
      refine ol_pure_g rfl rfl h9 rfl rfl (pure_load rfl ag3 rfl rfl) ?_
      refine ol_pure_g rfl rfl h9 rfl rfl (pure_eql rfl rfl rfl) ?_
      refine ol_pure rfl rfl rfl (pure_pick_t rfl rfl h9 rfl) ?_
      refine ol_nil ?_
      refine spk 38 [(1,_),(2,_),(22,_)] [(1,_),(2,_)] rfl rfl rfl ?_
      refine code_cond rfl (fun h10 => ?_) (fun h10 => ?_)
      ·try simp only [dq] at h10
       refine code_seq ?_
       refine code_ops _ rfl ?_
       refine ol_pure rfl rfl rfl (pure_field_box rfl fd25_2 rfl rfl) ?_
       refine ol_pure rfl rfl rfl (pure_load_box rfl ag23 rfl rfl rfl) ?_
       refine ol_pure rfl rfl rfl (pure_slice_lm rfl Tryz.underlying23 sz25 rfl rfl (by first | (simp only [ll]; omega) | omega) (fun _ => rfl)) ?_
       refine ol_pure rfl rfl rfl (pure_field_box rfl fd25_2 rfl rfl) ?_
       refine ol_step rfl (step_store_box rfl rfl rfl sz23 rfl rfl rfl rfl (by decide) rfl rfl hM0) ?_
       refine ol_nil ?_
       refine spk 38 [(1,_),(2,_)] [(1,_),(2,_)] rfl rfl rfl ?_
       refine code_seq ?_
       refine code_ops _ rfl ?_
       refine ol_pure rfl rfl rfl (pure_field_box rfl fd25_2 rfl rfl) ?_
       refine ol_pure rfl rfl rfl (pure_load_box rfl ag23 rfl rfl rfl) ?_
       refine ol_pure rfl rfl rfl (pure_lenm rfl Tryz.underlying23 rfl) ?_
       refine ol_pure rfl rfl rfl (pure_eql rfl rfl rfl) ?_
       refine ol_nil ?_
       refine spk 38 [(1,_),(2,_),(30,_)] [(1,_),(2,_)] rfl rfl rfl ?_
       refine code_cond rfl (fun h11 => ?_) (fun h11 => ?_)
       ·try simp only [dq] at h11
        refine code_ops _ rfl ?_
        refine ol_pure rfl rfl rfl (pure_field_box rfl fd25_2 rfl rfl) ?_
        refine ol_pure rfl rfl rfl (pure_load_box rfl ag23 rfl rfl rfl) ?_
        first | refine ol_pure rfl rfl rfl (pure_indexn rfl Tryz.underlying23 sz25 rfl rfl (by omega) (fun _ => rfl)) ?_ | refine ol_pure rfl rfl rfl (pure_indexm rfl Tryz.underlying23 sz25 rfl rfl (by omega) (fun _ => rfl)) ?_
        refine ol_pure rfl rfl rfl (pure_load_agg rfl ag25 sz25 rfl (Nat.le_of_ble_eq_true rfl)) ?_
        refine ol_step rfl (step_store_box rfl rfl rfl sz25 rfl rfl rfl rfl (by decide) rfl rfl hM0) ?_
        refine ol_nil ?_
        refine spk 38 [(1,_),(2,_)] [(1,_),(2,_)] rfl rfl rfl ?_
        refine code_seq ?_
        refine code_ops _ rfl ?_
        refine ol_pure rfl rfl rfl (pure_load_box_agg rfl ag25 sz25 rfl rfl rfl rfl) ?_
        refine ol_pure rfl rfl rfl (pure_lit rfl Tryz.underlying23 el25 rfl rfl rfl rfl hM0) ?_
        refine ol_pure rfl rfl rfl (pure_build rfl pl25 ze25 rfl rfl rfl) ?_
        refine ol_step rfl (step_store_box rfl rfl rfl sz25 rfl rfl rfl rfl (by decide) rfl rfl hM0) ?_
        refine ol_nil ?_
        refine spk 38 [(2,_)] [(2,_)] rfl rfl rfl ?_
        refine code_ret ?_
        refine endC_ret rfl ?_
        try simp only [Int.toNat_zero, Int.toNat_one, List.length_drop] at *
        first
          | (exfalso; omega)
          | (rw [starN_e (by omega)]; rfl)
          | (rw [starN_5 (by omega), rx_eq x])
          | (rw [starN_x (by omega) (by omega), starB_n (by omega), rx_mk, rxs_one, rx_eq x]; rfl)
          | (rw [starN_x (by omega) (by omega), starB_2 (by omega) (by omega), rx_mk, ← getD_drop1]; rfl)
          | (rw [starN_x (by omega) (by omega), starB_m (by omega) (by omega), rx_mk, rxs_one, rx_mk']; rfl)
       ·try simp only [dq] at h11
        refine code_skip ?_
        refine spk 38 [(1,_),(2,_)] [(1,_),(2,_)] rfl rfl rfl ?_
        refine code_seq ?_
        refine code_ops _ rfl ?_
        refine ol_pure rfl rfl rfl (pure_load_box_agg rfl ag25 sz25 rfl rfl rfl rfl) ?_
        refine ol_pure rfl rfl rfl (pure_lit rfl Tryz.underlying23 el25 rfl rfl rfl rfl hM0) ?_
        refine ol_pure rfl rfl rfl (pure_build rfl pl25 ze25 rfl rfl rfl) ?_
        refine ol_step rfl (step_store_box rfl rfl rfl sz25 rfl rfl rfl rfl (by decide) rfl rfl hM0) ?_
        refine ol_nil ?_
        refine spk 38 [(2,_)] [(2,_)] rfl rfl rfl ?_
        refine code_ret ?_
        refine endC_ret rfl ?_
        try simp only [Int.toNat_zero, Int.toNat_one, List.length_drop] at *
        first
          | (exfalso; omega)
          | (rw [starN_e (by omega)]; rfl)
          | (rw [starN_5 (by omega), rx_eq x])
          | (rw [starN_x (by omega) (by omega), starB_n (by omega), rx_mk, rxs_one, rx_eq x]; rfl)
          | (rw [starN_x (by omega) (by omega), starB_2 (by omega) (by omega), rx_mk, ← getD_drop1]; rfl)
          | (rw [starN_x (by omega) (by omega), starB_m (by omega) (by omega), rx_mk, rxs_one, rx_mk']; rfl)
      ·try simp only [dq] at h10
       refine code_skip ?_
       refine spk 38 [(1,_),(2,_)] [(1,_),(2,_)] rfl rfl rfl ?_
       refine code_seq ?_
       refine code_ops _ rfl ?_
       refine ol_pure rfl rfl rfl (pure_load_box_agg rfl ag25 sz25 rfl rfl rfl rfl) ?_
       refine ol_pure rfl rfl rfl (pure_lit rfl Tryz.underlying23 el25 rfl rfl rfl rfl hM0) ?_
       refine ol_pure rfl rfl rfl (pure_build rfl pl25 ze25 rfl rfl rfl) ?_
       refine ol_step rfl (step_store_box rfl rfl rfl sz25 rfl rfl rfl rfl (by decide) rfl rfl hM0) ?_
       refine ol_nil ?_
       refine spk 38 [(2,_)] [(2,_)] rfl rfl rfl ?_
       refine code_ret ?_
       refine endC_ret rfl ?_
       try simp only [Int.toNat_zero, Int.toNat_one, List.length_drop] at *
       first
         | (exfalso; omega)
         | (rw [starN_e (by omega)]; rfl)
         | (rw [starN_5 (by omega), rx_eq x])
         | (rw [starN_x (by omega) (by omega), starB_n (by omega), rx_mk, rxs_one, rx_eq x]; rfl)
         | (rw [starN_x (by omega) (by omega), starB_2 (by omega) (by omega), rx_mk, ← getD_drop1]; rfl)
         | (rw [starN_x (by omega) (by omega), starB_m (by omega) (by omega), rx_mk, rxs_one, rx_mk']; rfl)
     ·have h9' := h9; try simp only [dq] at h9'
      refine ol_skip_g rfl rfl h9 rfl rfl ?_
      refine ol_skip_g rfl rfl h9 rfl rfl ?_
      refine ol_skip_g rfl rfl h9 rfl rfl ?_
      refine opk 38 [(1,_),(2,_),(15,_),(18,_)] [(1,_),(2,_)] rfl rfl rfl ?_
      refine ol_skip_g rfl rfl h9 rfl rfl ?_
      refine ol_skip_g rfl rfl h9 rfl rfl ?_
      refine ol_skip_g rfl rfl h9 rfl rfl ?_
      refine ol_pure rfl rfl rfl (pure_pick_f rfl rfl h9 rfl) ?_
      refine ol_nil ?_
      refine spk 38 [(1,_),(2,_),(22,_)] [(1,_),(2,_)] rfl rfl rfl ?_
      refine code_cond_f rfl ?_
      refine code_skip ?_
      refine spk 38 [(1,_),(2,_)] [(1,_),(2,_)] rfl rfl rfl ?_
      refine code_seq ?_
      refine code_ops _ rfl ?_
      refine ol_pure rfl rfl rfl (pure_load_box_agg rfl ag25 sz25 rfl rfl rfl rfl) ?_
      refine ol_pure rfl rfl rfl (pure_lit rfl Tryz.underlying23 el25 rfl rfl rfl rfl hM0) ?_
      refine ol_pure rfl rfl rfl (pure_build rfl pl25 ze25 rfl rfl rfl) ?_
      refine ol_step rfl (step_store_box rfl rfl rfl sz25 rfl rfl rfl rfl (by decide) rfl rfl hM0) ?_
      refine ol_nil ?_
      refine spk 38 [(2,_)] [(2,_)] rfl rfl rfl ?_
      refine code_ret ?_
      refine endC_ret rfl ?_
      try simp only [Int.toNat_zero, Int.toNat_one, List.length_drop] at *
      first
        | (exfalso; omega)
        | (rw [starN_e (by omega)]; rfl)
        | (rw [starN_5 (by omega), rx_eq x])
        | (rw [starN_x (by omega) (by omega), starB_n (by omega), rx_mk, rxs_one, rx_eq x]; rfl)
        | (rw [starN_x (by omega) (by omega), starB_2 (by omega) (by omega), rx_mk, ← getD_drop1]; rfl)
        | (rw [starN_x (by omega) (by omega), starB_m (by omega) (by omega), rx_mk, rxs_one, rx_mk']; rfl)
end Go.Proofs.YtgdehkimfmfofaaGreat

