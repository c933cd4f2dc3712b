/-
  Contracts: the normal form of an expression, and that of the reversed one.
-/
import Derived.Test.YtgdehkimfmfofaaGreatJ25
import Derived.Test.YtgdehkimfmfofaaGreatJ27
import Derived.Test.YtgdehkimfmfofaaGreatJ28
import Derived.Test.YtgdehkimfmfofaaGreatJ29
set_option linter.unusedVariables false
set_option linter.unusedSimpArgs false
namespace Go.Proofs.YtgdehkimfmfofaaGreat
open Go.Am Go.Wb
set_option linter.unusedVariables false
set_option linter.unusedSimpArgs false
theorem fn51 : FnC Tryz.prog 51 Tryz.f51.ntmps 4 25 3 (Tryz.f51.body.getD .skip) := ⟨Tryz.f51, Tryz.func51, rfl, rfl, rfl, by kernel_rfl, ag25, sz25⟩
set_option maxRecDepth 100000 in
set_option maxHeartbeats 4000000 in
theorem build_call (t : Bool) : ∀ (m : Nat) (r : Rx), r.size ≤ m → m ≤ 137438953472 → validR r = true → CallF Tryz.prog 51 [rx r, bool t] (.p (rx (buildR t r))) := by
  refine fun m => Nat.strongRecOn m fun m ih => ?_
  intro r hm hmm hv
  have hl := kids_len r
  have hsy := syms_len r
  have hb := sizes_build t r.kids
  have hse := size_eq r
  have hK : ∀ x ∈ r.kids.map (buildR t), Nf x := fun x hx => by
    obtain ⟨y, hy, rfl⟩ := List.mem_map.1 hx
    exact build_nf t y (valid_kids hv y hy)
  have h5l : r.kind = 5 → 0 < (r.kids.map (buildR t)).length := fun h => by rw [List.length_map, (valid_5 hv h).2]; decide
  have kb : ∀ i, i < r.kids.length → CallF Tryz.prog 51 [rx (r.kids.getD i default), bool t] (.p (rx (buildR t (r.kids.getD i default)))) := fun i hi =>
    ih _ (Nat.lt_of_lt_of_le (kid_lt hi) hm) _ (Nat.le_refl _) (by have := kid_lt hi; omega) (valid_kids hv _ (kid_mem hi))
  rw [rx_eq r]
  refine callF_of_codeC fn51 (Nat.le_of_ble_eq_true rfl) fun w0 M0 hM0 => ?_
  refine code_seq ?_
  refine code_ops _ rfl ?_
  refine ol_pure rfl rfl rfl (pure_box rfl rfl rfl hM0) ?_
  refine ol_step rfl (step_alloc rfl rfl rfl rfl rfl ze25 rfl hM0) ?_
  refine ol_nil ?_
  refine spk 47 [(1,_),(2,_),(4,_)] [(4,_)] rfl rfl rfl ?_
  refine code_seq ?_
  refine code_ops _ rfl ?_
  refine ol_step rfl (step_nil rfl rfl rfl rfl rfl 25 hM0) ?_
  refine ol_nil ?_
  refine spk 47 [(1,_),(2,_),(4,_),(5,_)] [(4,_),(5,_)] rfl rfl rfl ?_
  refine code_seq ?_
  refine code_seq ?_
  refine code_ops _ rfl ?_
  refine ol_pure rfl rfl rfl (pure_field rfl fd25_2 rfl) ?_
  refine ol_pure rfl rfl rfl (pure_load rfl ag23 rfl rfl) ?_
  refine ol_pure rfl rfl rfl (pure_lenm rfl Tryz.underlying23 rfl) ?_
  refine ol_pure rfl rfl rfl (pure_move rfl rfl) ?_
  refine ol_nil ?_
  refine spk 47 [(1,_),(2,_),(4,_),(5,_),(9,_),(10,_),(11,_)] [(4,_),(5,_)] rfl rfl rfl ?_
  refine code_block ?_
  refine code_loopM (fun zm zs => ∃ i : Nat, zm = r.kids.length - i ∧ (i ≤ r.kids.length) ∧ zs = ⟨47, [(1, .v .mx (bool t)), (2, .v .mx (rpc r)), (4, .pbox 4 0), (5, .own 5), (9, .v .mx (rxs r.kids)), (10, .v .pl (int r.kids.length)), (11, .v .pl (int i))], [(4, .box 25 [.v .pl (.sc (.int .i64 0)), .v .pl (.sc (.slice none 0 0)), .v .pl (.sc (.slice none 0 0))]), (5, .arr 25 (((r.kids.take i).map (buildR t)).map rx))]⟩) (loop_init (n := 47) (l := [(1, _), (2, _), (4, _), (5, _), (9, _), (10, _), (11, _)]) (o' := [(4, _), (5, _)]) rfl ⟨rfl, rfl, rfl, rfl, rfl, rfl, rfl, trivial⟩ ⟨rfl, rfl, trivial⟩ ?_) ?_
  ·exact ⟨_, 0, rfl, Nat.zero_le _, rfl⟩
  ·rintro zm zs ⟨i, rfl, hL1_0, rfl⟩
   refine code_seq ?_
   refine code_ops _ rfl ?_
   refine ol_pure rfl rfl rfl (pure_lss rfl rfl rfl) ?_
   refine ol_nil ?_
   refine spk 47 [(1,_),(2,_),(4,_),(5,_),(9,_),(10,_),(11,_),(12,_)] [(4,_),(5,_)] rfl rfl rfl ?_
   refine code_seq ?_
   refine code_cond rfl (fun h1 => ?_) (fun h1 => ?_)
   ·try simp only [dq] at h1
    refine code_skip ?_
    refine spk 47 [(1,_),(2,_),(4,_),(5,_),(9,_),(10,_),(11,_)] [(4,_),(5,_)] rfl rfl rfl ?_
    refine code_seq ?_
    refine code_block ?_
    refine code_seq ?_
    refine code_ops _ rfl ?_
    first | refine ol_pure rfl rfl rfl (pure_indexn rfl Tryz.underlying23 sz25 rfl rfl (by omega) (fun _ => rfl)) ?_ | refine ol_pure rfl rfl rfl (pure_indexm rfl Tryz.underlying23 sz25 rfl rfl (by omega) (fun _ => rfl)) ?_
    refine ol_pure rfl rfl rfl (pure_load_agg rfl ag25 sz25 rfl (Nat.le_of_ble_eq_true rfl)) ?_
    refine ol_step rfl (step_alloc rfl rfl rfl rfl rfl ze25 rfl hM0) ?_
    refine ol_step rfl (step_store_box rfl rfl rfl sz25 rfl rfl rfl rfl (by decide) rfl rfl hM0) ?_
    refine ol_nil ?_
    refine spk 47 [(1,_),(2,_),(4,_),(5,_),(7,_),(9,_),(10,_),(11,_)] [(4,_),(5,_),(7,_)] rfl rfl rfl ?_
    refine code_ops _ rfl ?_
    refine ol_pure rfl rfl rfl (pure_move rfl rfl) ?_
    refine ol_pure rfl rfl rfl (pure_load_box_agg rfl ag25 sz25 rfl rfl rfl rfl) ?_
    refine ol_pure rfl rfl rfl (pure_move rfl rfl) ?_
    refine ol_pure rfl rfl rfl (pure_call rfl rfl rfl (kb _ (by omega)) hM0) ?_
    refine ol_pure rfl rfl rfl (pure_lit rfl Tryz.underlying23 el25 rfl rfl rfl rfl hM0) ?_
    refine ol_step rfl (step_append rfl rfl rfl rfl Tryz.underlying23 el25 rfl rfl hM0 (src_pl rfl (one_len (by rfl))) (by first | (simp only [ll]; omega) | omega) (by first | (simp only [ll]; omega) | omega)) ?_
    refine ol_pure rfl rfl rfl (pure_assign rfl rfl) ?_
    refine ol_nil ?_
    refine blockQ_normal ?_
    refine spk 47 [(1,_),(2,_),(4,_),(5,_),(9,_),(10,_),(11,_)] [(4,_),(5,_)] rfl rfl rfl ?_
    refine code_ops _ rfl ?_
    refine ol_pure rfl rfl rfl (pure_addi rfl rfl rfl (by omega)) ?_
    refine ol_pure rfl rfl rfl (pure_move rfl rfl) ?_
    refine ol_nil ?_
    refine loop_next (n := 47) (l := [(1, _), (2, _), (4, _), (5, _), (9, _), (10, _), (11, _)]) (o' := [(4, _), (5, _)]) rfl ⟨rfl, rfl, rfl, rfl, rfl, rfl, rfl, trivial⟩ ⟨rfl, rfl, trivial⟩ ?_
    exact ⟨_, ⟨i + 1, rfl, by omega, by rw [take_succ' (by omega), List.map_append, List.map_append]; rfl⟩, by omega⟩
   ·try simp only [dq] at h1
    refine code_exit ?_
    refine seqQ_exit ?_
    refine loopM_exit ?_
    refine blockQ_same ?_
    refine spk 47 [(1,_),(2,_),(4,_),(5,_)] [(4,_),(5,_)] rfl rfl rfl ?_
    refine code_seq ?_
    refine code_seq ?_
    rw [show r.kids.take i = r.kids from List.take_of_length_le (by omega)]
    refine code_ops _ rfl ?_
    refine ol_pure rfl rfl rfl (pure_field rfl fd25_0 rfl) ?_
    refine ol_pure rfl rfl rfl (pure_load rfl ag3 rfl rfl) ?_
    refine ol_nil ?_
    refine spk 47 [(1,_),(2,_),(4,_),(5,_),(23,_)] [(4,_),(5,_)] rfl rfl rfl ?_
    refine code_block ?_
    refine code_seq ?_
    refine code_ops _ rfl ?_
    refine ol_pure rfl rfl rfl (pure_eql rfl rfl rfl) ?_
    refine ol_pure rfl rfl rfl (pure_assign rfl rfl) ?_
    refine ol_nil ?_
    refine spk 47 [(1,_),(2,_),(4,_),(5,_),(23,_),(24,_)] [(4,_),(5,_)] rfl rfl rfl ?_
    refine code_cond rfl (fun h2 => ?_) (fun h2 => ?_)
    ·try simp only [dq] at h2
     refine code_seq ?_
     refine code_seq ?_
     refine code_ops _ rfl ?_
     refine ol_pure rfl rfl rfl (pure_move rfl rfl) ?_
     refine ol_nil ?_
     refine spk 47 [(4,_),(5,_),(26,_)] [(4,_),(5,_)] rfl rfl rfl ?_
     refine code_cond rfl (fun h3 => ?_) (fun h3 => ?_)
     ·try simp only [dq] at h3
      refine code_ops _ rfl ?_
      refine ol_pure rfl rfl rfl (pure_move rfl rfl) ?_
      refine ol_step rfl (step_revK (cells := rxc) revsR rfl rfl rfl rfl rfl rfl sz25 (by decide) (by rw [List.length_map]; omega) hM0) ?_
      refine ol_nil ?_
      refine spk 47 [(4,_),(5,_)] [(4,_),(5,_)] rfl rfl rfl ?_
      refine code_seq ?_
      refine code_frz 47 [(4, _), (5, _)] [(4, _)] hM0 rfl ⟨.inl rfl, .inr ⟨_, _, rfl, rfl, rfl⟩, trivial⟩ ⟨rfl, trivial⟩ ?_
      refine code_ops _ rfl ?_
      refine ol_pure rfl rfl rfl (pure_move rfl rfl) ?_
      refine ol_pure rfl rfl rfl (pure_callN rfl rfl rfl rfl (by first | exact seq_call (l := (r.kids.map (buildR t)).reverse) (by rw [sizes_rev]; omega) | exact seq_call (l := r.kids.map (buildR t)) (by omega)) hM0) ?_
      refine ol_step rfl (step_store_box rfl rfl rfl sz25 rfl rfl rfl rfl (by decide) rfl rfl hM0) ?_
      refine ol_nil ?_
      refine spk 47 [(4,_)] [(4,_)] rfl rfl rfl ?_
      refine code_ret ?_
      refine blockQ_ret ?_
      refine seqQ_ret ?_
      refine endC_ret rfl ?_
      first
        | (rw [buildR_3y (by omega) (by assumption)]; rfl)
        | (rw [buildR_3n (by omega) (by assumption)]; rfl)
        | (rw [buildR_4 (by omega)]; rfl)
        | (rw [buildR_5 (by omega)]; rfl)
        | (rw [buildR_x (by omega) (by omega) (by omega), rx_mk]; rfl)
     ·try simp only [dq] at h3
      refine code_skip ?_
      refine spk 47 [(4,_),(5,_)] [(4,_),(5,_)] rfl rfl rfl ?_
      refine code_seq ?_
      refine code_frz 47 [(4, _), (5, _)] [(4, _)] hM0 rfl ⟨.inl rfl, .inr ⟨_, _, rfl, rfl, rfl⟩, trivial⟩ ⟨rfl, trivial⟩ ?_
      refine code_ops _ rfl ?_
      refine ol_pure rfl rfl rfl (pure_move rfl rfl) ?_
      refine ol_pure rfl rfl rfl (pure_callN rfl rfl rfl rfl (by first | exact seq_call (l := (r.kids.map (buildR t)).reverse) (by rw [sizes_rev]; omega) | exact seq_call (l := r.kids.map (buildR t)) (by omega)) hM0) ?_
      refine ol_step rfl (step_store_box rfl rfl rfl sz25 rfl rfl rfl rfl (by decide) rfl rfl hM0) ?_
      refine ol_nil ?_
      refine spk 47 [(4,_)] [(4,_)] rfl rfl rfl ?_
      refine code_ret ?_
      refine blockQ_ret ?_
      refine seqQ_ret ?_
      refine endC_ret rfl ?_
      first
        | (rw [buildR_3y (by omega) (by assumption)]; rfl)
        | (rw [buildR_3n (by omega) (by assumption)]; rfl)
        | (rw [buildR_4 (by omega)]; rfl)
        | (rw [buildR_5 (by omega)]; rfl)
        | (rw [buildR_x (by omega) (by omega) (by omega), rx_mk]; rfl)
    ·try simp only [dq] at h2
     refine code_seq ?_
     refine code_ops _ rfl ?_
     refine ol_pure rfl rfl rfl (pure_eql rfl rfl rfl) ?_
     refine ol_pure rfl rfl rfl (pure_assign rfl rfl) ?_
     refine ol_nil ?_
     refine spk 47 [(2,_),(4,_),(5,_),(23,_),(31,_)] [(4,_),(5,_)] rfl rfl rfl ?_
     refine code_cond rfl (fun h4 => ?_) (fun h4 => ?_)
     ·try simp only [dq] at h4
      refine code_seq ?_
      refine code_frz 47 [(4, _), (5, _)] [(4, _)] hM0 rfl ⟨.inl rfl, .inr ⟨_, _, rfl, rfl, rfl⟩, trivial⟩ ⟨rfl, trivial⟩ ?_
      refine code_ops _ rfl ?_
      refine ol_pure rfl rfl rfl (pure_move rfl rfl) ?_
      refine ol_pure rfl rfl rfl (pure_callN rfl rfl rfl rfl (alt_call (l := r.kids.map (buildR t)) (by omega)) hM0) ?_
      refine ol_step rfl (step_store_box rfl rfl rfl sz25 rfl rfl rfl rfl (by decide) rfl rfl hM0) ?_
      refine ol_nil ?_
      refine spk 47 [(4,_)] [(4,_)] rfl rfl rfl ?_
      refine code_ret ?_
      refine blockQ_ret ?_
      refine seqQ_ret ?_
      refine endC_ret rfl ?_
      first
        | (rw [buildR_3y (by omega) (by assumption)]; rfl)
        | (rw [buildR_3n (by omega) (by assumption)]; rfl)
        | (rw [buildR_4 (by omega)]; rfl)
        | (rw [buildR_5 (by omega)]; rfl)
        | (rw [buildR_x (by omega) (by omega) (by omega), rx_mk]; rfl)
     ·try simp only [dq] at h4
      refine code_seq ?_
      refine code_ops _ rfl ?_
      refine ol_pure rfl rfl rfl (pure_eql rfl rfl rfl) ?_
      refine ol_pure rfl rfl rfl (pure_assign rfl rfl) ?_
      refine ol_nil ?_
      refine spk 47 [(2,_),(4,_),(5,_),(35,_)] [(4,_),(5,_)] rfl rfl rfl ?_
      refine code_cond rfl (fun h5 => ?_) (fun h5 => ?_)
      ·try simp only [dq] at h5
       refine code_seq ?_
       refine code_frz 47 [(4, _), (5, _)] [(4, _)] hM0 rfl ⟨.inl rfl, .inr ⟨_, _, rfl, rfl, rfl⟩, trivial⟩ ⟨rfl, trivial⟩ ?_
       refine code_ops _ rfl ?_
       refine ol_pure rfl rfl rfl (pure_move rfl rfl) ?_
       first | refine ol_pure rfl rfl rfl (pure_indexn rfl Tryz.underlying23 sz25 rfl rfl (by have := h5l (by omega); omega) (fun _ => rfl)) ?_ | refine ol_pure rfl rfl rfl (pure_indexm rfl Tryz.underlying23 sz25 rfl rfl (by have := h5l (by omega); omega) (fun _ => rfl)) ?_
       refine ol_pure rfl rfl rfl (pure_load_agg rfl ag25 sz25 rfl (Nat.le_of_ble_eq_true rfl)) ?_
       refine ol_pure rfl rfl rfl (pure_callN rfl rfl rfl rfl (star_call (x := (r.kids.map (buildR t)).getD 0 default) (fun h4 => by have := ((hK _ (kid_mem (h5l (by omega)))).k4 h4).2.1; omega)) hM0) ?_
       refine ol_step rfl (step_store_box rfl rfl rfl sz25 rfl rfl rfl rfl (by decide) rfl rfl hM0) ?_
       refine ol_nil ?_
       refine spk 47 [(4,_)] [(4,_)] rfl rfl rfl ?_
       refine code_ret ?_
       refine blockQ_ret ?_
       refine seqQ_ret ?_
       refine endC_ret rfl ?_
       first
         | (rw [buildR_3y (by omega) (by assumption)]; rfl)
         | (rw [buildR_3n (by omega) (by assumption)]; rfl)
         | (rw [buildR_4 (by omega)]; rfl)
         | (rw [buildR_5 (by omega)]; rfl)
         | (rw [buildR_x (by omega) (by omega) (by omega), rx_mk]; rfl)
      ·try simp only [dq] at h5
       refine code_skip ?_
       refine blockQ_normal ?_
       refine spk 47 [(2,_),(4,_)] [(4,_)] rfl rfl rfl ?_
       refine code_seq ?_
       refine code_draw mixed (by kernel_rfl) _ rfl ?_
       refine dl_pure rfl rfl rfl (pure_field rfl fd25_0 rfl) ?_
       refine dl_pure rfl rfl rfl (pure_load rfl ag3 rfl rfl) ?_
       refine dl_pure rfl rfl rfl (pure_field rfl fd25_1 rfl) ?_
       refine dl_pure rfl rfl rfl (pure_load rfl ag22 rfl rfl) ?_
       refine dl_pure rfl rfl rfl (pure_call rfl rfl rfl (clone_call (by omega)) hM0) ?_
       refine dl_pure rfl rfl rfl (pure_build rfl pl25 ze25 rfl rfl rfl) ?_
       refine dl_tails (by kernel_rfl) ?_
       refine tl_step rfl (step_store_box rfl rfl rfl sz25 rfl rfl rfl rfl (by decide) rfl rfl hM0) ?_
       refine tl_nil ?_
       refine spk 47 [(4,_)] [(4,_)] rfl rfl rfl ?_
       refine code_ret ?_
       refine endC_ret rfl ?_
       first
         | (rw [buildR_3y (by omega) (by assumption)]; rfl)
         | (rw [buildR_3n (by omega) (by assumption)]; rfl)
         | (rw [buildR_4 (by omega)]; rfl)
         | (rw [buildR_5 (by omega)]; rfl)
         | (rw [buildR_x (by omega) (by omega) (by omega), rx_mk]; rfl)
theorem fn19 : FnC Tryz.prog 19 Tryz.f19.ntmps 2 25 3 (Tryz.f19.body.getD .skip) := ⟨Tryz.f19, Tryz.func19, rfl, rfl, rfl, by kernel_rfl, ag25, sz25⟩
set_option maxRecDepth 100000 in
set_option maxHeartbeats 1000000 in
theorem simple_call {r : Rx} (h : r.size ≤ 137438953472) : CallF Tryz.prog 19 [rx r] (.p (rx (if validR r then buildR false r else noneRx))) := by
  refine callF_of_codeC fn19 (Nat.le_of_ble_eq_true rfl) fun w0 M0 hM0 => ?_
  refine code_seq ?_
  refine code_ops _ rfl ?_
  refine ol_pure rfl rfl rfl (pure_box rfl rfl rfl hM0) ?_
  refine ol_step rfl (step_alloc rfl rfl rfl rfl rfl ze25 rfl hM0) ?_
  refine ol_nil ?_
  refine spk 9 [(1,_),(2,_)] [(2,_)] rfl rfl rfl ?_
  refine code_seq ?_
  refine code_seq ?_
  refine code_ops _ rfl ?_
  refine ol_pure rfl rfl rfl (pure_load_agg rfl ag25 sz25 rfl (Nat.le_of_ble_eq_true rfl)) ?_
  refine ol_pure rfl rfl rfl (pure_call rfl rfl rfl (valid_call _ _ (Nat.le_refl _) (by omega)) hM0) ?_
  refine ol_pure rfl rfl rfl (pure_not rfl rfl) ?_
  refine ol_nil ?_
  refine spk 9 [(1,_),(2,_),(5,_)] [(2,_)] rfl rfl rfl ?_
  refine code_cond rfl (fun h1 => ?_) (fun h1 => ?_)
  ·try simp only [dq] at h1
   refine code_seq ?_
   refine code_ops _ rfl ?_
   refine ol_pure rfl rfl rfl (pure_build rfl pl25 ze25 rfl rfl rfl) ?_
   refine ol_step rfl (step_store_box rfl rfl rfl sz25 rfl rfl rfl rfl (by decide) rfl rfl hM0) ?_
   refine ol_nil ?_
   refine spk 9 [(2,_)] [(2,_)] rfl rfl rfl ?_
   refine code_ret ?_
   refine seqQ_ret ?_
   refine endC_ret rfl ?_
   first | (rw [if_pos (by assumption)]; rfl) | (rw [if_neg (by rw [h1]; decide)]; rfl)
  ·try simp only [dq] at h1
   refine code_skip ?_
   refine spk 9 [(1,_),(2,_)] [(2,_)] rfl rfl rfl ?_
   refine code_seq ?_
   refine code_ops _ rfl ?_
   refine ol_pure rfl rfl rfl (pure_load_agg rfl ag25 sz25 rfl (Nat.le_of_ble_eq_true rfl)) ?_
   refine ol_pure rfl rfl rfl (pure_call rfl rfl rfl (build_call _ _ _ (Nat.le_refl _) (by omega) (by simpa using h1)) hM0) ?_
   refine ol_step rfl (step_store_box rfl rfl rfl sz25 rfl rfl rfl rfl (by decide) rfl rfl hM0) ?_
   refine ol_nil ?_
   refine spk 9 [(2,_)] [(2,_)] rfl rfl rfl ?_
   refine code_ret ?_
   refine endC_ret rfl ?_
   first | (rw [if_pos (by assumption)]; rfl) | (rw [if_neg (by rw [h1]; decide)]; rfl)
theorem fn21 : FnC Tryz.prog 21 Tryz.f21.ntmps 2 25 3 (Tryz.f21.body.getD .skip) := ⟨Tryz.f21, Tryz.func21, rfl, rfl, rfl, by kernel_rfl, ag25, sz25⟩
set_option maxRecDepth 100000 in
set_option maxHeartbeats 1000000 in
theorem rev_call {r : Rx} (h : r.size ≤ 137438953472) : CallF Tryz.prog 21 [rx r] (.p (rx (if validR r then buildR true r else noneRx))) := by
  refine callF_of_codeC fn21 (Nat.le_of_ble_eq_true rfl) fun w0 M0 hM0 => ?_
  refine code_seq ?_
  refine code_ops _ rfl ?_
  refine ol_pure rfl rfl rfl (pure_box rfl rfl rfl hM0) ?_
  refine ol_step rfl (step_alloc rfl rfl rfl rfl rfl ze25 rfl hM0) ?_
  refine ol_nil ?_
  refine spk 9 [(1,_),(2,_)] [(2,_)] rfl rfl rfl ?_
  refine code_seq ?_
  refine code_seq ?_
  refine code_ops _ rfl ?_
  refine ol_pure rfl rfl rfl (pure_load_agg rfl ag25 sz25 rfl (Nat.le_of_ble_eq_true rfl)) ?_
  refine ol_pure rfl rfl rfl (pure_call rfl rfl rfl (valid_call _ _ (Nat.le_refl _) (by omega)) hM0) ?_
  refine ol_pure rfl rfl rfl (pure_not rfl rfl) ?_
  refine ol_nil ?_
  refine spk 9 [(1,_),(2,_),(5,_)] [(2,_)] rfl rfl rfl ?_
  refine code_cond rfl (fun h1 => ?_) (fun h1 => ?_)
  ·try simp only [dq] at h1
   refine code_seq ?_
   refine code_ops _ rfl ?_
   refine ol_pure rfl rfl rfl (pure_build rfl pl25 ze25 rfl rfl rfl) ?_
   refine ol_step rfl (step_store_box rfl rfl rfl sz25 rfl rfl rfl rfl (by decide) rfl rfl hM0) ?_
   refine ol_nil ?_
   refine spk 9 [(2,_)] [(2,_)] rfl rfl rfl ?_
   refine code_ret ?_
   refine seqQ_ret ?_
   refine endC_ret rfl ?_
   first | (rw [if_pos (by assumption)]; rfl) | (rw [if_neg (by rw [h1]; decide)]; rfl)
  ·try simp only [dq] at h1
   refine code_skip ?_
   refine spk 9 [(1,_),(2,_)] [(2,_)] rfl rfl rfl ?_
   refine code_seq ?_
   refine code_ops _ rfl ?_
   refine ol_pure rfl rfl rfl (pure_load_agg rfl ag25 sz25 rfl (Nat.le_of_ble_eq_true rfl)) ?_
   refine ol_pure rfl rfl rfl (pure_call rfl rfl rfl (build_call _ _ _ (Nat.le_refl _) (by omega) (by simpa using h1)) hM0) ?_
   refine ol_step rfl (step_store_box rfl rfl rfl sz25 rfl rfl rfl rfl (by decide) rfl rfl hM0) ?_
   refine ol_nil ?_
   refine spk 9 [(2,_)] [(2,_)] rfl rfl rfl ?_
   refine code_ret ?_
   refine endC_ret rfl ?_
   first | (rw [if_pos (by assumption)]; rfl) | (rw [if_neg (by rw [h1]; decide)]; rfl)
end Go.Proofs.YtgdehkimfmfofaaGreat

