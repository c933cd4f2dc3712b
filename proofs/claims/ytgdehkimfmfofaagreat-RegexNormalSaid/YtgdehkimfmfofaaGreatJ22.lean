/-
  Contracts: valid expressions made of numbers; words; symbols.
-/
import Derived.Test.YtgdehkimfmfofaaGreatJ21
import Derived.Test.YtgdehkimfmfofaaGreatJ14
import Derived.Test.YtgdehkimfmfofaaGreatJ15
set_option linter.unusedVariables false
set_option linter.unusedSimpArgs false
namespace Go.Proofs.YtgdehkimfmfofaaGreat
open Go.Am Go.Wb Go.Wc
set_option linter.unusedVariables false
set_option linter.unusedSimpArgs false
theorem fn26 : Fn1 Tryz.prog 26 Tryz.f26.ntmps 2 (Tryz.f26.body.getD .skip) := ⟨Tryz.f26, Tryz.func26, rfl, rfl, rfl, by kernel_rfl⟩
set_option maxRecDepth 100000 in
theorem symbol_call {n : Int} (hn : I64 n) : CallF Tryz.prog 26 [int n] (.p (int (symP n))) := by
  refine callF_of_code fn26 (Nat.le_of_ble_eq_true rfl) fun w0 M0 hM0 => ?_
  refine code_seq ?_
  refine code_ops _ rfl ?_
  refine ol_pure rfl rfl rfl (pure_assign rfl rfl) ?_
  refine ol_nil ?_
  refine spk 9 [(0,_)] [] rfl rfl rfl ?_
  refine code_seq ?_
  refine code_seq ?_
  refine code_ops _ rfl ?_
  refine ol_pure rfl rfl rfl (pure_move rfl rfl) ?_
  refine ol_pure rfl rfl rfl (pure_rem rfl rfl rfl (by omega)) ?_
  refine ol_pure rfl rfl rfl (pure_eql rfl rfl rfl) ?_
  refine ol_nil ?_
  refine spk 9 [(0,_),(5,_)] [] rfl rfl rfl ?_
  refine code_cond rfl (fun h1 => ?_) (fun h1 => ?_)
  ·try simp only [dq] at h1
   refine code_seq ?_
   refine code_ops _ rfl ?_
   refine ol_pure rfl rfl rfl (pure_move rfl rfl) ?_
   refine ol_pure rfl rfl rfl (pure_assign rfl rfl) ?_
   refine ol_nil ?_
   refine spk 9 [(2,_)] [] rfl rfl rfl ?_
   refine code_ret ?_
   refine seqQ_ret ?_
   refine end_ret rfl ?_
   unfold symP; first | (rw [if_pos (by assumption)]; done) | (rw [if_neg (by assumption)]; done)
  ·try simp only [dq] at h1
   refine code_skip ?_
   refine spk 9 [(0,_)] [] rfl rfl rfl ?_
   refine code_seq ?_
   refine code_ops _ rfl ?_
   refine ol_pure rfl rfl rfl (pure_move rfl rfl) ?_
   refine ol_pure rfl rfl rfl (pure_call rfl rfl rfl (around_call hn (by decide)) hM0) ?_
   refine ol_pure rfl rfl rfl (pure_assign rfl rfl) ?_
   refine ol_nil ?_
   refine spk 9 [(2,_)] [] rfl rfl rfl ?_
   refine code_ret ?_
   refine end_ret rfl ?_
   unfold symP; first | (rw [if_pos (by assumption)]; done) | (rw [if_neg (by assumption)]; done)
theorem fn37 : FnC Tryz.prog 37 Tryz.f37.ntmps 4 25 3 (Tryz.f37.body.getD .skip) := ⟨Tryz.f37, Tryz.func37, rfl, rfl, rfl, by kernel_rfl, ag25, sz25⟩
set_option maxRecDepth 100000 in
set_option maxHeartbeats 8000000 in
theorem shaped_call {l : List Int} {most : Int} (h64 : I64s l) (hm : 0 < most) (hm2 : most ≤ 1000) (hl : l.length ≤ 9223372036854775807) : CallF Tryz.prog 37 [ints l, int most] (.p (rx (shapedP l most))) := by
  refine callF_of_codeC fn37 (Nat.le_of_ble_eq_true rfl) fun w0 M0 hM0 => ?_
  refine code_seq ?_
  refine code_ops _ rfl ?_
  refine ol_step rfl (step_alloc rfl rfl rfl rfl rfl ze25 rfl hM0) ?_
  refine ol_nil ?_
  refine spk 182 [(0,_),(1,_),(4,_)] [(4,_)] rfl rfl rfl ?_
  refine code_seq ?_
  refine code_ops _ rfl ?_
  refine ol_step rfl (step_nil rfl rfl rfl rfl rfl 25 hM0) ?_
  refine ol_nil ?_
  refine spk 182 [(0,_),(1,_),(4,_),(5,_)] [(4,_),(5,_)] rfl rfl rfl ?_
  refine code_seq ?_
  refine code_seq ?_
  refine code_ops _ rfl ?_
  refine ol_pure rfl rfl rfl (pure_assign rfl rfl) ?_
  refine ol_nil ?_
  refine spk 182 [(0,_),(1,_),(4,_),(5,_),(6,_)] [(4,_),(5,_)] rfl rfl rfl ?_
  refine code_block ?_
  refine code_loopM (fun zm zs => ∃ i : Nat, zm = l.length - i ∧ (i ≤ l.length) ∧ (i ≤ 16) ∧ zs = ⟨182, [(0, .v .mx (ints l)), (1, .v .mx (int most)), (4, .pbox 4 0), (5, .own 5), (6, .v .pl (int i))], [(4, .box 25 [.v .pl (.sc (.int .i64 0)), .v .pl (.sc (.slice none 0 0)), .v .pl (.sc (.slice none 0 0))]), (5, .arr 25 ((shpN most l i).map rx))]⟩) (loop_init (n := 182) (l := [(0, _), (1, _), (4, _), (5, _), (6, _)]) (o' := [(4, _), (5, _)]) rfl ⟨rfl, rfl, rfl, rfl, rfl, trivial⟩ ⟨rfl, rfl, trivial⟩ ?_) ?_
  ·exact ⟨_, 0, rfl, Nat.zero_le _, by omega, rfl⟩
  ·rintro zm zs ⟨i, rfl, hL1_0, hL1_1, rfl⟩
   have hal := around_lt (n := l.getD i default) (most := 1048576) (by decide)
   have hsl := shpN_len most l i
   have hq := Int.ediv_nonneg (a := (around (l.getD i default) 1048576) / 8) (b := most) (by omega) (by omega)
   generalize hst : shpN most l i = st at *
   have e1 : ((st.length : Int) - 1).toNat = st.length - 1 := by omega
   have e2 : ((st.length : Int) - 2).toNat = st.length - 2 := by omega
   refine code_seq ?_
   refine code_seq ?_
   refine code_ops _ rfl ?_
   refine ol_pure rfl rfl rfl (pure_move rfl rfl) ?_
   refine ol_pure rfl rfl rfl (pure_move rfl rfl) ?_
   refine ol_pure rfl rfl rfl (pure_lenm rfl Tryz.underlying22 rfl) ?_
   refine ol_pure rfl rfl rfl (pure_lss rfl rfl rfl) ?_
   refine ol_pure rfl rfl rfl (pure_move rfl rfl) ?_
   refine ol_guard rfl (fun h1 => ?_) (fun h1 => ?_)
   ·have h1' := h1; try simp only [dq] at h1'
    refine ol_pure_g rfl rfl h1 rfl rfl (pure_move rfl rfl) ?_
    refine ol_pure_g rfl rfl h1 rfl rfl (pure_lss rfl rfl rfl) ?_
    refine ol_pure rfl rfl rfl (pure_pick_t rfl rfl h1 rfl) ?_
    refine ol_nil ?_
    refine spk 182 [(0,_),(1,_),(4,_),(5,_),(6,_),(19,_)] [(4,_),(5,_)] rfl rfl rfl ?_
    refine code_cond rfl (fun h2 => ?_) (fun h2 => ?_)
    ·try simp only [dq] at h2
     refine code_skip ?_
     refine spk 182 [(0,_),(1,_),(4,_),(5,_),(6,_)] [(4,_),(5,_)] rfl rfl rfl ?_
     refine code_seq ?_
     refine code_block ?_
     refine code_seq ?_
     refine code_ops _ rfl ?_
     refine ol_pure rfl rfl rfl (pure_move rfl rfl) ?_
     refine ol_pure rfl rfl rfl (pure_move rfl rfl) ?_
     first | refine ol_pure rfl rfl rfl (pure_indexn rfl Tryz.underlying22 sz3 rfl rfl (by omega) (fun _ => rfl)) ?_ | refine ol_pure rfl rfl rfl (pure_indexm rfl Tryz.underlying22 sz3 rfl rfl (by omega) (fun _ => rfl)) ?_
     refine ol_pure rfl rfl rfl (pure_load rfl ag3 rfl rfl) ?_
     refine ol_pure rfl rfl rfl (pure_call rfl rfl rfl (around_call (h64.get i) (by decide)) hM0) ?_
     refine ol_pure rfl rfl rfl (pure_assign rfl rfl) ?_
     refine ol_nil ?_
     refine spk 182 [(0,_),(1,_),(4,_),(5,_),(6,_),(7,_)] [(4,_),(5,_)] rfl rfl rfl ?_
     refine code_seq ?_
     refine code_ops _ rfl ?_
     refine ol_pure rfl rfl rfl (pure_move rfl rfl) ?_
     refine ol_pure rfl rfl rfl (pure_quon rfl rfl rfl (by omega)) ?_
     refine ol_pure rfl rfl rfl (pure_assign rfl rfl) ?_
     refine ol_nil ?_
     refine spk 182 [(0,_),(1,_),(4,_),(5,_),(6,_),(7,_),(8,_)] [(4,_),(5,_)] rfl rfl rfl ?_
     refine code_seq ?_
     refine code_ops _ rfl ?_
     refine ol_pure rfl rfl rfl (pure_move rfl rfl) ?_
     refine ol_pure rfl rfl rfl (pure_lenm rfl Tryz.underlying23 rfl) ?_
     refine ol_pure rfl rfl rfl (pure_assign rfl rfl) ?_
     refine ol_nil ?_
     refine spk 182 [(0,_),(1,_),(4,_),(5,_),(6,_),(7,_),(8,_),(9,_)] [(4,_),(5,_)] rfl rfl rfl ?_
     refine code_seq ?_
     refine code_ops _ rfl ?_
     refine ol_pure rfl rfl rfl (pure_move rfl rfl) ?_
     refine ol_pure rfl rfl rfl (pure_remn rfl rfl rfl (by omega)) ?_
     refine ol_pure rfl rfl rfl (pure_leq rfl rfl rfl) ?_
     refine ol_nil ?_
     refine spk 182 [(0,_),(1,_),(4,_),(5,_),(6,_),(7,_),(8,_),(9,_),(33,_)] [(4,_),(5,_)] rfl rfl rfl ?_
     refine code_cond rfl (fun h3 => ?_) (fun h3 => ?_)
     ·try simp only [dq] at h3
      refine code_ops _ rfl ?_
      refine ol_pure rfl rfl rfl (pure_move rfl rfl) ?_
      refine ol_pure rfl rfl rfl (pure_move rfl rfl) ?_
      refine ol_pure rfl rfl rfl (pure_move rfl rfl) ?_
      refine ol_pure rfl rfl rfl (pure_remn rfl rfl rfl (by omega)) ?_
      refine ol_pure rfl rfl rfl (pure_lit rfl Tryz.underlying22 el3 rfl rfl rfl rfl hM0) ?_
      refine ol_pure rfl rfl rfl (pure_callN rfl rfl rfl rfl (one_call [(around (l.getD i default) 1048576) / 8 % most]) hM0) ?_
      refine ol_pure rfl rfl rfl (pure_lit rfl Tryz.underlying23 el25 rfl rfl rfl rfl hM0) ?_
      refine ol_step rfl (step_append rfl rfl rfl rfl Tryz.underlying23 el25 rfl rfl hM0 (src_pl rfl (one_len (by rfl))) (by first | (simp only [ll]; omega) | omega) (by first | (simp only [ll]; omega) | omega)) ?_
      refine ol_pure rfl rfl rfl (pure_assign rfl rfl) ?_
      refine ol_nil ?_
      refine blockQ_normal ?_
      refine spk 182 [(0,_),(1,_),(4,_),(5,_),(6,_)] [(4,_),(5,_)] rfl rfl rfl ?_
      refine code_ops _ rfl ?_
      refine ol_pure rfl rfl rfl (pure_move rfl rfl) ?_
      refine ol_pure rfl rfl rfl (pure_addi rfl rfl rfl (by omega)) ?_
      refine ol_pure rfl rfl rfl (pure_assign rfl rfl) ?_
      refine ol_nil ?_
      refine loop_next (n := 182) (l := [(0, _), (1, _), (4, _), (5, _), (6, _)]) (o' := [(4, _), (5, _)]) rfl ⟨rfl, rfl, rfl, rfl, rfl, trivial⟩ ⟨rfl, rfl, trivial⟩ ?_
      refine ⟨_, ⟨i + 1, rfl, by omega, by omega, ?_⟩, by omega⟩
      rw [shpN, hst]
      first
        | (rw [shpF_01 (by omega), List.map_append]; rfl)
        | (rw [shpF_2a (by omega) (by omega) (by assumption), List.map_append]; rfl)
        | (rw [shpF_2b (by omega) (by omega) (by assumption), List.map_append]; rfl)
        | (rw [shpF_3 (by omega) (by omega), List.map_set, ← e1]; rfl)
        | (rw [shpF_4 (by omega) (by omega), List.map_take, List.map_set, ← e1, ← e2]; rfl)
        | (rw [shpF_5 (by omega) (by omega), List.map_take, List.map_set, ← e1, ← e2]; rfl)
        | (rw [shpF_6 (by omega) (by omega), List.map_set, ← e1]; rfl)
        | (rw [shpF_7 (by omega), List.map_append]; rfl)
        | (rw [shpF_x (by omega) (by omega) (by omega) (by omega) (by omega) (by omega) (by omega)]; rfl)
     ·try simp only [dq] at h3
      refine code_seq ?_
      refine code_ops _ rfl ?_
      refine ol_pure rfl rfl rfl (pure_move rfl rfl) ?_
      refine ol_pure rfl rfl rfl (pure_remn rfl rfl rfl (by omega)) ?_
      refine ol_pure rfl rfl rfl (pure_eql rfl rfl rfl) ?_
      refine ol_nil ?_
      refine spk 182 [(0,_),(1,_),(4,_),(5,_),(6,_),(7,_),(8,_),(9,_),(44,_)] [(4,_),(5,_)] rfl rfl rfl ?_
      refine code_cond rfl (fun h4 => ?_) (fun h4 => ?_)
      ·try simp only [dq] at h4
       refine code_seq ?_
       refine code_ops _ rfl ?_
       refine ol_pure rfl rfl rfl (pure_move rfl rfl) ?_
       refine ol_pure rfl rfl rfl (pure_move rfl rfl) ?_
       refine ol_pure rfl rfl rfl (pure_remn rfl rfl rfl (by omega)) ?_
       refine ol_pure rfl rfl rfl (pure_assign rfl rfl) ?_
       refine ol_nil ?_
       refine spk 182 [(0,_),(1,_),(4,_),(5,_),(6,_),(8,_),(10,_)] [(4,_),(5,_)] rfl rfl rfl ?_
       refine code_seq ?_
       refine code_ops _ rfl ?_
       refine ol_pure rfl rfl rfl (pure_move rfl rfl) ?_
       refine ol_pure rfl rfl rfl (pure_move rfl rfl) ?_
       refine ol_pure rfl rfl rfl (pure_quon rfl rfl rfl (by omega)) ?_
       refine ol_pure rfl rfl rfl (pure_move rfl rfl) ?_
       refine ol_pure rfl rfl rfl (pure_remn rfl rfl rfl (by omega)) ?_
       refine ol_pure rfl rfl rfl (pure_assign rfl rfl) ?_
       refine ol_nil ?_
       refine spk 182 [(0,_),(1,_),(4,_),(5,_),(6,_),(10,_),(11,_)] [(4,_),(5,_)] rfl rfl rfl ?_
       refine code_seq ?_
       refine code_ops _ rfl ?_
       refine ol_pure rfl rfl rfl (pure_move rfl rfl) ?_
       refine ol_pure rfl rfl rfl (pure_move rfl rfl) ?_
       refine ol_pure rfl rfl rfl (pure_eql rfl rfl rfl) ?_
       refine ol_nil ?_
       refine spk 182 [(0,_),(1,_),(4,_),(5,_),(6,_),(10,_),(11,_),(55,_)] [(4,_),(5,_)] rfl rfl rfl ?_
       refine code_cond rfl (fun h5 => ?_) (fun h5 => ?_)
       ·try simp only [dq] at h5
        refine code_ops _ rfl ?_
        refine ol_pure rfl rfl rfl (pure_move rfl rfl) ?_
        refine ol_pure rfl rfl rfl (pure_move rfl rfl) ?_
        refine ol_pure rfl rfl rfl (pure_lit rfl Tryz.underlying22 el3 rfl rfl rfl rfl hM0) ?_
        refine ol_pure rfl rfl rfl (pure_callN rfl rfl rfl rfl (one_call [(around (l.getD i default) 1048576) / 8 % most]) hM0) ?_
        refine ol_pure rfl rfl rfl (pure_lit rfl Tryz.underlying23 el25 rfl rfl rfl rfl hM0) ?_
        refine ol_step rfl (step_append rfl rfl rfl rfl Tryz.underlying23 el25 rfl rfl hM0 (src_pl rfl (one_len (by rfl))) (by first | (simp only [ll]; omega) | omega) (by first | (simp only [ll]; omega) | omega)) ?_
        refine ol_pure rfl rfl rfl (pure_assign rfl rfl) ?_
        refine ol_nil ?_
        refine blockQ_normal ?_
        refine spk 182 [(0,_),(1,_),(4,_),(5,_),(6,_)] [(4,_),(5,_)] rfl rfl rfl ?_
        refine code_ops _ rfl ?_
        refine ol_pure rfl rfl rfl (pure_move rfl rfl) ?_
        refine ol_pure rfl rfl rfl (pure_addi rfl rfl rfl (by omega)) ?_
        refine ol_pure rfl rfl rfl (pure_assign rfl rfl) ?_
        refine ol_nil ?_
        refine loop_next (n := 182) (l := [(0, _), (1, _), (4, _), (5, _), (6, _)]) (o' := [(4, _), (5, _)]) rfl ⟨rfl, rfl, rfl, rfl, rfl, trivial⟩ ⟨rfl, rfl, trivial⟩ ?_
        refine ⟨_, ⟨i + 1, rfl, by omega, by omega, ?_⟩, by omega⟩
        rw [shpN, hst]
        first
          | (rw [shpF_01 (by omega), List.map_append]; rfl)
          | (rw [shpF_2a (by omega) (by omega) (by assumption), List.map_append]; rfl)
          | (rw [shpF_2b (by omega) (by omega) (by assumption), List.map_append]; rfl)
          | (rw [shpF_3 (by omega) (by omega), List.map_set, ← e1]; rfl)
          | (rw [shpF_4 (by omega) (by omega), List.map_take, List.map_set, ← e1, ← e2]; rfl)
          | (rw [shpF_5 (by omega) (by omega), List.map_take, List.map_set, ← e1, ← e2]; rfl)
          | (rw [shpF_6 (by omega) (by omega), List.map_set, ← e1]; rfl)
          | (rw [shpF_7 (by omega), List.map_append]; rfl)
          | (rw [shpF_x (by omega) (by omega) (by omega) (by omega) (by omega) (by omega) (by omega)]; rfl)
       ·try simp only [dq] at h5
        refine code_ops _ rfl ?_
        refine ol_pure rfl rfl rfl (pure_move rfl rfl) ?_
        refine ol_pure rfl rfl rfl (pure_move rfl rfl) ?_
        refine ol_pure rfl rfl rfl (pure_move rfl rfl) ?_
        refine ol_pure rfl rfl rfl (pure_min rfl rfl rfl) ?_
        refine ol_pure rfl rfl rfl (pure_move rfl rfl) ?_
        refine ol_pure rfl rfl rfl (pure_move rfl rfl) ?_
        refine ol_pure rfl rfl rfl (pure_max rfl rfl rfl) ?_
        refine opk 182 [(0,_),(1,_),(4,_),(6,_),(62,_),(65,_),(68,_)] [(4,_),(5,_)] rfl rfl rfl ?_
        refine ol_pure rfl rfl rfl (pure_lit rfl Tryz.underlying22 el3 rfl rfl rfl rfl hM0) ?_
        refine ol_pure rfl rfl rfl (pure_callN rfl rfl rfl rfl (one_call [minI ((around (l.getD i default) 1048576) / 8 % most) ((around (l.getD i default) 1048576) / 8 / most % most), maxI ((around (l.getD i default) 1048576) / 8 % most) ((around (l.getD i default) 1048576) / 8 / most % most)]) hM0) ?_
        refine ol_pure rfl rfl rfl (pure_lit rfl Tryz.underlying23 el25 rfl rfl rfl rfl hM0) ?_
        refine ol_step rfl (step_append rfl rfl rfl rfl Tryz.underlying23 el25 rfl rfl hM0 (src_pl rfl (one_len (by rfl))) (by first | (simp only [ll]; omega) | omega) (by first | (simp only [ll]; omega) | omega)) ?_
        refine ol_pure rfl rfl rfl (pure_assign rfl rfl) ?_
        refine ol_nil ?_
        refine blockQ_normal ?_
        refine spk 182 [(0,_),(1,_),(4,_),(5,_),(6,_)] [(4,_),(5,_)] rfl rfl rfl ?_
        refine code_ops _ rfl ?_
        refine ol_pure rfl rfl rfl (pure_move rfl rfl) ?_
        refine ol_pure rfl rfl rfl (pure_addi rfl rfl rfl (by omega)) ?_
        refine ol_pure rfl rfl rfl (pure_assign rfl rfl) ?_
        refine ol_nil ?_
        refine loop_next (n := 182) (l := [(0, _), (1, _), (4, _), (5, _), (6, _)]) (o' := [(4, _), (5, _)]) rfl ⟨rfl, rfl, rfl, rfl, rfl, trivial⟩ ⟨rfl, rfl, trivial⟩ ?_
        refine ⟨_, ⟨i + 1, rfl, by omega, by omega, ?_⟩, by omega⟩
        rw [shpN, hst]
        first
          | (rw [shpF_01 (by omega), List.map_append]; rfl)
          | (rw [shpF_2a (by omega) (by omega) (by assumption), List.map_append]; rfl)
          | (rw [shpF_2b (by omega) (by omega) (by assumption), List.map_append]; rfl)
          | (rw [shpF_3 (by omega) (by omega), List.map_set, ← e1]; rfl)
          | (rw [shpF_4 (by omega) (by omega), List.map_take, List.map_set, ← e1, ← e2]; rfl)
          | (rw [shpF_5 (by omega) (by omega), List.map_take, List.map_set, ← e1, ← e2]; rfl)
          | (rw [shpF_6 (by omega) (by omega), List.map_set, ← e1]; rfl)
          | (rw [shpF_7 (by omega), List.map_append]; rfl)
          | (rw [shpF_x (by omega) (by omega) (by omega) (by omega) (by omega) (by omega) (by omega)]; rfl)
      ·try simp only [dq] at h4
       refine code_cut (fun zs => zs = ⟨182, [(0, .v .mx (ints l)), (1, .v .mx (int most)), (4, .pbox 4 0), (5, .own 5), (6, .v .pl (int i)), (7, .v .pl (int (around (l.getD i default) 1048576))), (8, .v .pl (int ((around (l.getD i default) 1048576) / 8))), (9, .v .pl (int st.length)), (79, .v .pl (bool (decide ((around (l.getD i default) 1048576) % 8 = 3 ∧ 0 < (st.length : Int)))))], [(4, .box 25 [.v .pl (.sc (.int .i64 0)), .v .pl (.sc (.slice none 0 0)), .v .pl (.sc (.slice none 0 0))]), (5, .arr 25 (st.map rx))]⟩) ?_ ?_
       ·skip
        refine code_ops _ rfl ?_
        refine ol_pure rfl rfl rfl (pure_move rfl rfl) ?_
        refine ol_pure rfl rfl rfl (pure_remn rfl rfl rfl (by omega)) ?_
        refine ol_pure rfl rfl rfl (pure_eql rfl rfl rfl) ?_
        refine ol_pure rfl rfl rfl (pure_move rfl rfl) ?_
        refine ol_guard rfl (fun h6 => ?_) (fun h6 => ?_)
        ·have h6' := h6; try simp only [dq] at h6'
         refine ol_pure_g rfl rfl h6 rfl rfl (pure_move rfl rfl) ?_
         refine ol_pure_g rfl rfl h6 rfl rfl (pure_gtr rfl rfl rfl) ?_
         refine ol_pure rfl rfl rfl (pure_pick_t rfl rfl h6 rfl) ?_
         refine ol_nil ?_
         refine cut_next (n := 182) (l := [(0, _), (1, _), (4, _), (5, _), (6, _), (7, _), (8, _), (9, _), (79, _)]) (o' := [(4, _), (5, _)]) rfl ⟨rfl, rfl, rfl, rfl, rfl, rfl, rfl, rfl, rfl, trivial⟩ ⟨rfl, rfl, trivial⟩ ?_
         first
           | (rw [decide_eq_false (p := (around (l.getD i default) 1048576) % 8 = 3 ∧ 0 < (st.length : Int)) (by omega)]; first | done | rfl)
           | (rw [show decide ((around (l.getD i default) 1048576) % 8 = 3 ∧ 0 < (st.length : Int)) = decide (0 < (st.length : Int)) from decide_eq_decide.2 (by omega)]; first | done | rfl)
        ·have h6' := h6; try simp only [dq] at h6'
         refine ol_skip_g rfl rfl h6 rfl rfl ?_
         refine ol_skip_g rfl rfl h6 rfl rfl ?_
         refine ol_pure rfl rfl rfl (pure_pick_f rfl rfl h6 rfl) ?_
         refine ol_nil ?_
         refine cut_next (n := 182) (l := [(0, _), (1, _), (4, _), (5, _), (6, _), (7, _), (8, _), (9, _), (79, _)]) (o' := [(4, _), (5, _)]) rfl ⟨rfl, rfl, rfl, rfl, rfl, rfl, rfl, rfl, rfl, trivial⟩ ⟨rfl, rfl, trivial⟩ ?_
         first
           | (rw [decide_eq_false (p := (around (l.getD i default) 1048576) % 8 = 3 ∧ 0 < (st.length : Int)) (by omega)]; first | done | rfl)
           | (rw [show decide ((around (l.getD i default) 1048576) % 8 = 3 ∧ 0 < (st.length : Int)) = decide (0 < (st.length : Int)) from decide_eq_decide.2 (by omega)]; first | done | rfl)
       ·rintro zs ⟨rfl⟩
        refine code_cond rfl (fun h7 => ?_) (fun h7 => ?_)
        ·try simp only [dq] at h7
         refine code_ops _ rfl ?_
         refine ol_pure rfl rfl rfl (pure_move rfl rfl) ?_
         refine ol_pure rfl rfl rfl (pure_move rfl rfl) ?_
         refine ol_pure rfl rfl rfl (pure_subi rfl rfl rfl (by omega)) ?_
         refine ol_pure rfl rfl rfl (pure_move rfl rfl) ?_
         refine ol_pure rfl rfl rfl (pure_move rfl rfl) ?_
         refine ol_pure rfl rfl rfl (pure_subi rfl rfl rfl (by omega)) ?_
         refine ol_pure rfl rfl rfl (pure_index_own rfl Tryz.underlying23 sz25 rfl rfl rfl (by first | (simp only [ll]; omega) | omega)) ?_
         refine opk 182 [(0,_),(1,_),(4,_),(5,_),(6,_),(80,_),(82,_),(86,_)] [(4,_),(5,_)] rfl rfl rfl ?_
         refine ol_pure rfl rfl rfl (pure_load_pel_agg rfl ag25 sz25 rfl rfl sz25 (mget (by first | (simp only [ll]; omega) | omega))) ?_
         refine ol_pure rfl rfl rfl (pure_lit rfl Tryz.underlying23 el25 rfl rfl rfl rfl hM0) ?_
         refine ol_pure rfl rfl rfl (pure_callN rfl rfl rfl rfl (of_call 5 [st.getD ((st.length : Int) - 1).toNat default]) hM0) ?_
         refine ol_pure rfl rfl rfl (pure_index_own rfl Tryz.underlying23 sz25 rfl rfl rfl (by first | (simp only [ll]; omega) | omega)) ?_
         refine ol_step rfl (step_store_pel rfl rfl rfl sz25 rfl rfl (mget (by first | (simp only [ll]; omega) | omega)) rfl rfl (.inl rfl) rfl (Nat.le_of_ble_eq_true rfl) hM0) ?_
         refine ol_nil ?_
         refine blockQ_normal ?_
         refine spk 182 [(0,_),(1,_),(4,_),(5,_),(6,_)] [(4,_),(5,_)] rfl rfl rfl ?_
         refine code_ops _ rfl ?_
         refine ol_pure rfl rfl rfl (pure_move rfl rfl) ?_
         refine ol_pure rfl rfl rfl (pure_addi rfl rfl rfl (by omega)) ?_
         refine ol_pure rfl rfl rfl (pure_assign rfl rfl) ?_
         refine ol_nil ?_
         refine loop_next (n := 182) (l := [(0, _), (1, _), (4, _), (5, _), (6, _)]) (o' := [(4, _), (5, _)]) rfl ⟨rfl, rfl, rfl, rfl, rfl, trivial⟩ ⟨rfl, rfl, trivial⟩ ?_
         refine ⟨_, ⟨i + 1, rfl, by omega, by omega, ?_⟩, by omega⟩
         rw [shpN, hst]
         first
           | (rw [shpF_01 (by omega), List.map_append]; rfl)
           | (rw [shpF_2a (by omega) (by omega) (by assumption), List.map_append]; rfl)
           | (rw [shpF_2b (by omega) (by omega) (by assumption), List.map_append]; rfl)
           | (rw [shpF_3 (by omega) (by omega), List.map_set, ← e1]; rfl)
           | (rw [shpF_4 (by omega) (by omega), List.map_take, List.map_set, ← e1, ← e2]; rfl)
           | (rw [shpF_5 (by omega) (by omega), List.map_take, List.map_set, ← e1, ← e2]; rfl)
           | (rw [shpF_6 (by omega) (by omega), List.map_set, ← e1]; rfl)
           | (rw [shpF_7 (by omega), List.map_append]; rfl)
           | (rw [shpF_x (by omega) (by omega) (by omega) (by omega) (by omega) (by omega) (by omega)]; rfl)
        ·try simp only [dq] at h7
         refine code_cut (fun zs => zs = ⟨182, [(0, .v .mx (ints l)), (1, .v .mx (int most)), (4, .pbox 4 0), (5, .own 5), (6, .v .pl (int i)), (7, .v .pl (int (around (l.getD i default) 1048576))), (8, .v .pl (int ((around (l.getD i default) 1048576) / 8))), (9, .v .pl (int st.length)), (97, .v .pl (bool (decide ((around (l.getD i default) 1048576) % 8 = 4 ∧ 1 < (st.length : Int)))))], [(4, .box 25 [.v .pl (.sc (.int .i64 0)), .v .pl (.sc (.slice none 0 0)), .v .pl (.sc (.slice none 0 0))]), (5, .arr 25 (st.map rx))]⟩) ?_ ?_
         ·skip
          refine code_ops _ rfl ?_
          refine ol_pure rfl rfl rfl (pure_move rfl rfl) ?_
          refine ol_pure rfl rfl rfl (pure_remn rfl rfl rfl (by omega)) ?_
          refine ol_pure rfl rfl rfl (pure_eql rfl rfl rfl) ?_
          refine ol_pure rfl rfl rfl (pure_move rfl rfl) ?_
          refine ol_guard rfl (fun h8 => ?_) (fun h8 => ?_)
          ·have h8' := h8; try simp only [dq] at h8'
           refine ol_pure_g rfl rfl h8 rfl rfl (pure_move rfl rfl) ?_
           refine ol_pure_g rfl rfl h8 rfl rfl (pure_gtr rfl rfl rfl) ?_
           refine ol_pure rfl rfl rfl (pure_pick_t rfl rfl h8 rfl) ?_
           refine ol_nil ?_
           refine cut_next (n := 182) (l := [(0, _), (1, _), (4, _), (5, _), (6, _), (7, _), (8, _), (9, _), (97, _)]) (o' := [(4, _), (5, _)]) rfl ⟨rfl, rfl, rfl, rfl, rfl, rfl, rfl, rfl, rfl, trivial⟩ ⟨rfl, rfl, trivial⟩ ?_
           first
             | (rw [decide_eq_false (p := (around (l.getD i default) 1048576) % 8 = 4 ∧ 1 < (st.length : Int)) (by omega)]; first | done | rfl)
             | (rw [show decide ((around (l.getD i default) 1048576) % 8 = 4 ∧ 1 < (st.length : Int)) = decide (1 < (st.length : Int)) from decide_eq_decide.2 (by omega)]; first | done | rfl)
          ·have h8' := h8; try simp only [dq] at h8'
           refine ol_skip_g rfl rfl h8 rfl rfl ?_
           refine ol_skip_g rfl rfl h8 rfl rfl ?_
           refine ol_pure rfl rfl rfl (pure_pick_f rfl rfl h8 rfl) ?_
           refine ol_nil ?_
           refine cut_next (n := 182) (l := [(0, _), (1, _), (4, _), (5, _), (6, _), (7, _), (8, _), (9, _), (97, _)]) (o' := [(4, _), (5, _)]) rfl ⟨rfl, rfl, rfl, rfl, rfl, rfl, rfl, rfl, rfl, trivial⟩ ⟨rfl, rfl, trivial⟩ ?_
           first
             | (rw [decide_eq_false (p := (around (l.getD i default) 1048576) % 8 = 4 ∧ 1 < (st.length : Int)) (by omega)]; first | done | rfl)
             | (rw [show decide ((around (l.getD i default) 1048576) % 8 = 4 ∧ 1 < (st.length : Int)) = decide (1 < (st.length : Int)) from decide_eq_decide.2 (by omega)]; first | done | rfl)
         ·rintro zs ⟨rfl⟩
          refine code_cond rfl (fun h9 => ?_) (fun h9 => ?_)
          ·try simp only [dq] at h9
           refine code_seq ?_
           refine code_draw mixed (by kernel_rfl) _ rfl ?_
           refine dl_pure rfl rfl rfl (pure_move rfl rfl) ?_
           refine dl_pure rfl rfl rfl (pure_move rfl rfl) ?_
           refine dl_pure rfl rfl rfl (pure_subi rfl rfl rfl (by omega)) ?_
           refine dl_pure rfl rfl rfl (pure_move rfl rfl) ?_
           refine dl_pure rfl rfl rfl (pure_move rfl rfl) ?_
           refine dl_pure rfl rfl rfl (pure_subi rfl rfl rfl (by omega)) ?_
           refine dl_pure rfl rfl rfl (pure_index_own rfl Tryz.underlying23 sz25 rfl rfl rfl (by first | (simp only [ll]; omega) | omega)) ?_
           refine dpk 182 [(0,_),(1,_),(4,_),(5,_),(6,_),(9,_),(98,_),(100,_),(104,_)] [(4,_),(5,_)] rfl rfl rfl ?_
           refine dl_pure rfl rfl rfl (pure_load_pel_agg rfl ag25 sz25 rfl rfl sz25 (mget (by first | (simp only [ll]; omega) | omega))) ?_
           refine dl_pure rfl rfl rfl (pure_move rfl rfl) ?_
           refine dl_pure rfl rfl rfl (pure_move rfl rfl) ?_
           refine dl_pure rfl rfl rfl (pure_subi rfl rfl rfl (by omega)) ?_
           refine dl_pure rfl rfl rfl (pure_index_own rfl Tryz.underlying23 sz25 rfl rfl rfl (by first | (simp only [ll]; omega) | omega)) ?_
           refine dl_pure rfl rfl rfl (pure_load_pel_agg rfl ag25 sz25 rfl rfl sz25 (mget (by first | (simp only [ll]; omega) | omega))) ?_
           refine dl_pure rfl rfl rfl (pure_lit rfl Tryz.underlying23 el25 rfl rfl rfl rfl hM0) ?_
           refine dl_pure rfl rfl rfl (pure_callN rfl rfl rfl rfl (of_call 3 [st.getD ((st.length : Int) - 2).toNat default, st.getD ((st.length : Int) - 1).toNat default]) hM0) ?_
           refine dl_pure rfl rfl rfl (pure_index_own rfl Tryz.underlying23 sz25 rfl rfl rfl (by first | (simp only [ll]; omega) | omega)) ?_
           refine dl_tails (by kernel_rfl) ?_
           refine tl_step rfl (step_store_pel rfl rfl rfl sz25 rfl rfl (mget (by first | (simp only [ll]; omega) | omega)) rfl rfl (.inl rfl) rfl (Nat.le_of_ble_eq_true rfl) hM0) ?_
           refine tl_nil ?_
           refine spk 182 [(0,_),(1,_),(4,_),(5,_),(6,_),(9,_)] [(4,_),(5,_)] rfl rfl rfl ?_
           refine code_ops _ rfl ?_
           refine ol_pure rfl rfl rfl (pure_move rfl rfl) ?_
           refine ol_pure rfl rfl rfl (pure_move rfl rfl) ?_
           refine ol_pure rfl rfl rfl (pure_subi rfl rfl rfl (by omega)) ?_
           refine ol_pure rfl rfl rfl (pure_slice_own rfl Tryz.underlying23 sz25 rfl rfl rfl (by first | (simp only [ll]; omega) | omega)) ?_
           refine ol_trunc 117 rfl rfl hM0 rfl ?_
           refine ol_pure rfl rfl rfl (pure_assign rfl rfl) ?_
           refine ol_nil ?_
           refine blockQ_normal ?_
           refine spk 182 [(0,_),(1,_),(4,_),(5,_),(6,_)] [(4,_),(5,_)] rfl rfl rfl ?_
           refine code_ops _ rfl ?_
           refine ol_pure rfl rfl rfl (pure_move rfl rfl) ?_
           refine ol_pure rfl rfl rfl (pure_addi rfl rfl rfl (by omega)) ?_
           refine ol_pure rfl rfl rfl (pure_assign rfl rfl) ?_
           refine ol_nil ?_
           refine loop_next (n := 182) (l := [(0, _), (1, _), (4, _), (5, _), (6, _)]) (o' := [(4, _), (5, _)]) rfl ⟨rfl, rfl, rfl, rfl, rfl, trivial⟩ ⟨rfl, rfl, trivial⟩ ?_
           refine ⟨_, ⟨i + 1, rfl, by omega, by omega, ?_⟩, by omega⟩
           rw [shpN, hst]
           first
             | (rw [shpF_01 (by omega), List.map_append]; rfl)
             | (rw [shpF_2a (by omega) (by omega) (by assumption), List.map_append]; rfl)
             | (rw [shpF_2b (by omega) (by omega) (by assumption), List.map_append]; rfl)
             | (rw [shpF_3 (by omega) (by omega), List.map_set, ← e1]; rfl)
             | (rw [shpF_4 (by omega) (by omega), List.map_take, List.map_set, ← e1, ← e2]; rfl)
             | (rw [shpF_5 (by omega) (by omega), List.map_take, List.map_set, ← e1, ← e2]; rfl)
             | (rw [shpF_6 (by omega) (by omega), List.map_set, ← e1]; rfl)
             | (rw [shpF_7 (by omega), List.map_append]; rfl)
             | (rw [shpF_x (by omega) (by omega) (by omega) (by omega) (by omega) (by omega) (by omega)]; rfl)
          ·try simp only [dq] at h9
           refine code_cut (fun zs => zs = ⟨182, [(0, .v .mx (ints l)), (1, .v .mx (int most)), (4, .pbox 4 0), (5, .own 5), (6, .v .pl (int i)), (7, .v .pl (int (around (l.getD i default) 1048576))), (8, .v .pl (int ((around (l.getD i default) 1048576) / 8))), (9, .v .pl (int st.length)), (124, .v .pl (bool (decide ((around (l.getD i default) 1048576) % 8 = 5 ∧ 1 < (st.length : Int)))))], [(4, .box 25 [.v .pl (.sc (.int .i64 0)), .v .pl (.sc (.slice none 0 0)), .v .pl (.sc (.slice none 0 0))]), (5, .arr 25 (st.map rx))]⟩) ?_ ?_
           ·skip
            refine code_ops _ rfl ?_
            refine ol_pure rfl rfl rfl (pure_move rfl rfl) ?_
            refine ol_pure rfl rfl rfl (pure_remn rfl rfl rfl (by omega)) ?_
            refine ol_pure rfl rfl rfl (pure_eql rfl rfl rfl) ?_
            refine ol_pure rfl rfl rfl (pure_move rfl rfl) ?_
            refine ol_guard rfl (fun h10 => ?_) (fun h10 => ?_)
            ·have h10' := h10; try simp only [dq] at h10'
             refine ol_pure_g rfl rfl h10 rfl rfl (pure_move rfl rfl) ?_
             refine ol_pure_g rfl rfl h10 rfl rfl (pure_gtr rfl rfl rfl) ?_
             refine ol_pure rfl rfl rfl (pure_pick_t rfl rfl h10 rfl) ?_
             refine ol_nil ?_
             refine cut_next (n := 182) (l := [(0, _), (1, _), (4, _), (5, _), (6, _), (7, _), (8, _), (9, _), (124, _)]) (o' := [(4, _), (5, _)]) rfl ⟨rfl, rfl, rfl, rfl, rfl, rfl, rfl, rfl, rfl, trivial⟩ ⟨rfl, rfl, trivial⟩ ?_
             first
               | (rw [decide_eq_false (p := (around (l.getD i default) 1048576) % 8 = 5 ∧ 1 < (st.length : Int)) (by omega)]; first | done | rfl)
               | (rw [show decide ((around (l.getD i default) 1048576) % 8 = 5 ∧ 1 < (st.length : Int)) = decide (1 < (st.length : Int)) from decide_eq_decide.2 (by omega)]; first | done | rfl)
            ·have h10' := h10; try simp only [dq] at h10'
             refine ol_skip_g rfl rfl h10 rfl rfl ?_
             refine ol_skip_g rfl rfl h10 rfl rfl ?_
             refine ol_pure rfl rfl rfl (pure_pick_f rfl rfl h10 rfl) ?_
             refine ol_nil ?_
             refine cut_next (n := 182) (l := [(0, _), (1, _), (4, _), (5, _), (6, _), (7, _), (8, _), (9, _), (124, _)]) (o' := [(4, _), (5, _)]) rfl ⟨rfl, rfl, rfl, rfl, rfl, rfl, rfl, rfl, rfl, trivial⟩ ⟨rfl, rfl, trivial⟩ ?_
             first
               | (rw [decide_eq_false (p := (around (l.getD i default) 1048576) % 8 = 5 ∧ 1 < (st.length : Int)) (by omega)]; first | done | rfl)
               | (rw [show decide ((around (l.getD i default) 1048576) % 8 = 5 ∧ 1 < (st.length : Int)) = decide (1 < (st.length : Int)) from decide_eq_decide.2 (by omega)]; first | done | rfl)
           ·rintro zs ⟨rfl⟩
            refine code_cond rfl (fun h11 => ?_) (fun h11 => ?_)
            ·try simp only [dq] at h11
             refine code_seq ?_
             refine code_draw mixed (by kernel_rfl) _ rfl ?_
             refine dl_pure rfl rfl rfl (pure_move rfl rfl) ?_
             refine dl_pure rfl rfl rfl (pure_move rfl rfl) ?_
             refine dl_pure rfl rfl rfl (pure_subi rfl rfl rfl (by omega)) ?_
             refine dl_pure rfl rfl rfl (pure_move rfl rfl) ?_
             refine dl_pure rfl rfl rfl (pure_move rfl rfl) ?_
             refine dl_pure rfl rfl rfl (pure_subi rfl rfl rfl (by omega)) ?_
             refine dl_pure rfl rfl rfl (pure_index_own rfl Tryz.underlying23 sz25 rfl rfl rfl (by first | (simp only [ll]; omega) | omega)) ?_
             refine dpk 182 [(0,_),(1,_),(4,_),(5,_),(6,_),(9,_),(125,_),(127,_),(131,_)] [(4,_),(5,_)] rfl rfl rfl ?_
             refine dl_pure rfl rfl rfl (pure_load_pel_agg rfl ag25 sz25 rfl rfl sz25 (mget (by first | (simp only [ll]; omega) | omega))) ?_
             refine dl_pure rfl rfl rfl (pure_move rfl rfl) ?_
             refine dl_pure rfl rfl rfl (pure_move rfl rfl) ?_
             refine dl_pure rfl rfl rfl (pure_subi rfl rfl rfl (by omega)) ?_
             refine dl_pure rfl rfl rfl (pure_index_own rfl Tryz.underlying23 sz25 rfl rfl rfl (by first | (simp only [ll]; omega) | omega)) ?_
             refine dl_pure rfl rfl rfl (pure_load_pel_agg rfl ag25 sz25 rfl rfl sz25 (mget (by first | (simp only [ll]; omega) | omega))) ?_
             refine dl_pure rfl rfl rfl (pure_lit rfl Tryz.underlying23 el25 rfl rfl rfl rfl hM0) ?_
             refine dl_pure rfl rfl rfl (pure_callN rfl rfl rfl rfl (of_call 4 [st.getD ((st.length : Int) - 2).toNat default, st.getD ((st.length : Int) - 1).toNat default]) hM0) ?_
             refine dl_pure rfl rfl rfl (pure_index_own rfl Tryz.underlying23 sz25 rfl rfl rfl (by first | (simp only [ll]; omega) | omega)) ?_
             refine dl_tails (by kernel_rfl) ?_
             refine tl_step rfl (step_store_pel rfl rfl rfl sz25 rfl rfl (mget (by first | (simp only [ll]; omega) | omega)) rfl rfl (.inl rfl) rfl (Nat.le_of_ble_eq_true rfl) hM0) ?_
             refine tl_nil ?_
             refine spk 182 [(0,_),(1,_),(4,_),(5,_),(6,_),(9,_)] [(4,_),(5,_)] rfl rfl rfl ?_
             refine code_ops _ rfl ?_
             refine ol_pure rfl rfl rfl (pure_move rfl rfl) ?_
             refine ol_pure rfl rfl rfl (pure_move rfl rfl) ?_
             refine ol_pure rfl rfl rfl (pure_subi rfl rfl rfl (by omega)) ?_
             refine ol_pure rfl rfl rfl (pure_slice_own rfl Tryz.underlying23 sz25 rfl rfl rfl (by first | (simp only [ll]; omega) | omega)) ?_
             refine ol_trunc 144 rfl rfl hM0 rfl ?_
             refine ol_pure rfl rfl rfl (pure_assign rfl rfl) ?_
             refine ol_nil ?_
             refine blockQ_normal ?_
             refine spk 182 [(0,_),(1,_),(4,_),(5,_),(6,_)] [(4,_),(5,_)] rfl rfl rfl ?_
             refine code_ops _ rfl ?_
             refine ol_pure rfl rfl rfl (pure_move rfl rfl) ?_
             refine ol_pure rfl rfl rfl (pure_addi rfl rfl rfl (by omega)) ?_
             refine ol_pure rfl rfl rfl (pure_assign rfl rfl) ?_
             refine ol_nil ?_
             refine loop_next (n := 182) (l := [(0, _), (1, _), (4, _), (5, _), (6, _)]) (o' := [(4, _), (5, _)]) rfl ⟨rfl, rfl, rfl, rfl, rfl, trivial⟩ ⟨rfl, rfl, trivial⟩ ?_
             refine ⟨_, ⟨i + 1, rfl, by omega, by omega, ?_⟩, by omega⟩
             rw [shpN, hst]
             first
               | (rw [shpF_01 (by omega), List.map_append]; rfl)
               | (rw [shpF_2a (by omega) (by omega) (by assumption), List.map_append]; rfl)
               | (rw [shpF_2b (by omega) (by omega) (by assumption), List.map_append]; rfl)
               | (rw [shpF_3 (by omega) (by omega), List.map_set, ← e1]; rfl)
               | (rw [shpF_4 (by omega) (by omega), List.map_take, List.map_set, ← e1, ← e2]; rfl)
               | (rw [shpF_5 (by omega) (by omega), List.map_take, List.map_set, ← e1, ← e2]; rfl)
               | (rw [shpF_6 (by omega) (by omega), List.map_set, ← e1]; rfl)
               | (rw [shpF_7 (by omega), List.map_append]; rfl)
               | (rw [shpF_x (by omega) (by omega) (by omega) (by omega) (by omega) (by omega) (by omega)]; rfl)
            ·try simp only [dq] at h11
             refine code_cut (fun zs => zs = ⟨182, [(0, .v .mx (ints l)), (1, .v .mx (int most)), (4, .pbox 4 0), (5, .own 5), (6, .v .pl (int i)), (7, .v .pl (int (around (l.getD i default) 1048576))), (8, .v .pl (int ((around (l.getD i default) 1048576) / 8))), (9, .v .pl (int st.length)), (151, .v .pl (bool (decide ((around (l.getD i default) 1048576) % 8 = 6 ∧ 0 < (st.length : Int)))))], [(4, .box 25 [.v .pl (.sc (.int .i64 0)), .v .pl (.sc (.slice none 0 0)), .v .pl (.sc (.slice none 0 0))]), (5, .arr 25 (st.map rx))]⟩) ?_ ?_
             ·skip
              refine code_ops _ rfl ?_
              refine ol_pure rfl rfl rfl (pure_move rfl rfl) ?_
              refine ol_pure rfl rfl rfl (pure_remn rfl rfl rfl (by omega)) ?_
              refine ol_pure rfl rfl rfl (pure_eql rfl rfl rfl) ?_
              refine ol_pure rfl rfl rfl (pure_move rfl rfl) ?_
              refine ol_guard rfl (fun h12 => ?_) (fun h12 => ?_)
              ·have h12' := h12; try simp only [dq] at h12'
               refine ol_pure_g rfl rfl h12 rfl rfl (pure_move rfl rfl) ?_
               refine ol_pure_g rfl rfl h12 rfl rfl (pure_gtr rfl rfl rfl) ?_
               refine ol_pure rfl rfl rfl (pure_pick_t rfl rfl h12 rfl) ?_
               refine ol_nil ?_
               refine cut_next (n := 182) (l := [(0, _), (1, _), (4, _), (5, _), (6, _), (7, _), (8, _), (9, _), (151, _)]) (o' := [(4, _), (5, _)]) rfl ⟨rfl, rfl, rfl, rfl, rfl, rfl, rfl, rfl, rfl, trivial⟩ ⟨rfl, rfl, trivial⟩ ?_
               first
                 | (rw [decide_eq_false (p := (around (l.getD i default) 1048576) % 8 = 6 ∧ 0 < (st.length : Int)) (by omega)]; first | done | rfl)
                 | (rw [show decide ((around (l.getD i default) 1048576) % 8 = 6 ∧ 0 < (st.length : Int)) = decide (0 < (st.length : Int)) from decide_eq_decide.2 (by omega)]; first | done | rfl)
              ·have h12' := h12; try simp only [dq] at h12'
               refine ol_skip_g rfl rfl h12 rfl rfl ?_
               refine ol_skip_g rfl rfl h12 rfl rfl ?_
               refine ol_pure rfl rfl rfl (pure_pick_f rfl rfl h12 rfl) ?_
               refine ol_nil ?_
               refine cut_next (n := 182) (l := [(0, _), (1, _), (4, _), (5, _), (6, _), (7, _), (8, _), (9, _), (151, _)]) (o' := [(4, _), (5, _)]) rfl ⟨rfl, rfl, rfl, rfl, rfl, rfl, rfl, rfl, rfl, trivial⟩ ⟨rfl, rfl, trivial⟩ ?_
               first
                 | (rw [decide_eq_false (p := (around (l.getD i default) 1048576) % 8 = 6 ∧ 0 < (st.length : Int)) (by omega)]; first | done | rfl)
                 | (rw [show decide ((around (l.getD i default) 1048576) % 8 = 6 ∧ 0 < (st.length : Int)) = decide (0 < (st.length : Int)) from decide_eq_decide.2 (by omega)]; first | done | rfl)
             ·rintro zs ⟨rfl⟩
              refine code_cond rfl (fun h13 => ?_) (fun h13 => ?_)
              ·try simp only [dq] at h13
               refine code_ops _ rfl ?_
               refine ol_pure rfl rfl rfl (pure_move rfl rfl) ?_
               refine ol_pure rfl rfl rfl (pure_move rfl rfl) ?_
               refine ol_pure rfl rfl rfl (pure_subi rfl rfl rfl (by omega)) ?_
               refine ol_pure rfl rfl rfl (pure_norm (pure_build rfl pl25 ze25 rfl rfl rfl) rfl) ?_
               refine ol_pure rfl rfl rfl (pure_move rfl rfl) ?_
               refine ol_pure rfl rfl rfl (pure_move rfl rfl) ?_
               refine ol_pure rfl rfl rfl (pure_subi rfl rfl rfl (by omega)) ?_
               refine opk 182 [(0,_),(1,_),(4,_),(5,_),(6,_),(152,_),(154,_),(155,_),(156,_),(158,_)] [(4,_),(5,_)] rfl rfl rfl ?_
               refine ol_pure rfl rfl rfl (pure_index_own rfl Tryz.underlying23 sz25 rfl rfl rfl (by first | (simp only [ll]; omega) | omega)) ?_
               refine ol_pure rfl rfl rfl (pure_load_pel_agg rfl ag25 sz25 rfl rfl sz25 (mget (by first | (simp only [ll]; omega) | omega))) ?_
               refine ol_pure rfl rfl rfl (pure_lit rfl Tryz.underlying23 el25 rfl rfl rfl rfl hM0) ?_
               refine ol_pure rfl rfl rfl (pure_callN rfl rfl rfl rfl (of_call 4 [emptyRx, st.getD ((st.length : Int) - 1).toNat default]) hM0) ?_
               refine ol_pure rfl rfl rfl (pure_index_own rfl Tryz.underlying23 sz25 rfl rfl rfl (by first | (simp only [ll]; omega) | omega)) ?_
               refine ol_step rfl (step_store_pel rfl rfl rfl sz25 rfl rfl (mget (by first | (simp only [ll]; omega) | omega)) rfl rfl (.inl rfl) rfl (Nat.le_of_ble_eq_true rfl) hM0) ?_
               refine ol_nil ?_
               refine blockQ_normal ?_
               refine spk 182 [(0,_),(1,_),(4,_),(5,_),(6,_)] [(4,_),(5,_)] rfl rfl rfl ?_
               refine code_ops _ rfl ?_
               refine ol_pure rfl rfl rfl (pure_move rfl rfl) ?_
               refine ol_pure rfl rfl rfl (pure_addi rfl rfl rfl (by omega)) ?_
               refine ol_pure rfl rfl rfl (pure_assign rfl rfl) ?_
               refine ol_nil ?_
               refine loop_next (n := 182) (l := [(0, _), (1, _), (4, _), (5, _), (6, _)]) (o' := [(4, _), (5, _)]) rfl ⟨rfl, rfl, rfl, rfl, rfl, trivial⟩ ⟨rfl, rfl, trivial⟩ ?_
               refine ⟨_, ⟨i + 1, rfl, by omega, by omega, ?_⟩, by omega⟩
               rw [shpN, hst]
               first
                 | (rw [shpF_01 (by omega), List.map_append]; rfl)
                 | (rw [shpF_2a (by omega) (by omega) (by assumption), List.map_append]; rfl)
                 | (rw [shpF_2b (by omega) (by omega) (by assumption), List.map_append]; rfl)
                 | (rw [shpF_3 (by omega) (by omega), List.map_set, ← e1]; rfl)
                 | (rw [shpF_4 (by omega) (by omega), List.map_take, List.map_set, ← e1, ← e2]; rfl)
                 | (rw [shpF_5 (by omega) (by omega), List.map_take, List.map_set, ← e1, ← e2]; rfl)
                 | (rw [shpF_6 (by omega) (by omega), List.map_set, ← e1]; rfl)
                 | (rw [shpF_7 (by omega), List.map_append]; rfl)
                 | (rw [shpF_x (by omega) (by omega) (by omega) (by omega) (by omega) (by omega) (by omega)]; rfl)
              ·try simp only [dq] at h13
               refine code_seq ?_
               refine code_ops _ rfl ?_
               refine ol_pure rfl rfl rfl (pure_move rfl rfl) ?_
               refine ol_pure rfl rfl rfl (pure_remn rfl rfl rfl (by omega)) ?_
               refine ol_pure rfl rfl rfl (pure_eql rfl rfl rfl) ?_
               refine ol_nil ?_
               refine spk 182 [(0,_),(1,_),(4,_),(5,_),(6,_),(8,_),(166,_)] [(4,_),(5,_)] rfl rfl rfl ?_
               refine code_cond rfl (fun h14 => ?_) (fun h14 => ?_)
               ·try simp only [dq] at h14
                refine code_ops _ rfl ?_
                refine ol_pure rfl rfl rfl (pure_move rfl rfl) ?_
                refine ol_pure rfl rfl rfl (pure_move rfl rfl) ?_
                refine ol_pure rfl rfl rfl (pure_remn rfl rfl rfl (by omega)) ?_
                refine ol_pure rfl rfl rfl (pure_min rfl rfl rfl) ?_
                refine ol_pure rfl rfl rfl (pure_norm (pure_build rfl pl25 ze25 rfl rfl rfl) rfl) ?_
                refine ol_pure rfl rfl rfl (pure_lit rfl Tryz.underlying23 el25 rfl rfl rfl rfl hM0) ?_
                refine ol_step rfl (step_append rfl rfl rfl rfl Tryz.underlying23 el25 rfl rfl hM0 (src_pl rfl (one_len (by rfl))) (by first | (simp only [ll]; omega) | omega) (by first | (simp only [ll]; omega) | omega)) ?_
                refine ol_pure rfl rfl rfl (pure_assign rfl rfl) ?_
                refine ol_nil ?_
                refine blockQ_normal ?_
                refine spk 182 [(0,_),(1,_),(4,_),(5,_),(6,_)] [(4,_),(5,_)] rfl rfl rfl ?_
                refine code_ops _ rfl ?_
                refine ol_pure rfl rfl rfl (pure_move rfl rfl) ?_
                refine ol_pure rfl rfl rfl (pure_addi rfl rfl rfl (by omega)) ?_
                refine ol_pure rfl rfl rfl (pure_assign rfl rfl) ?_
                refine ol_nil ?_
                refine loop_next (n := 182) (l := [(0, _), (1, _), (4, _), (5, _), (6, _)]) (o' := [(4, _), (5, _)]) rfl ⟨rfl, rfl, rfl, rfl, rfl, trivial⟩ ⟨rfl, rfl, trivial⟩ ?_
                refine ⟨_, ⟨i + 1, rfl, by omega, by omega, ?_⟩, by omega⟩
                rw [shpN, hst]
                first
                  | (rw [shpF_01 (by omega), List.map_append]; rfl)
                  | (rw [shpF_2a (by omega) (by omega) (by assumption), List.map_append]; rfl)
                  | (rw [shpF_2b (by omega) (by omega) (by assumption), List.map_append]; rfl)
                  | (rw [shpF_3 (by omega) (by omega), List.map_set, ← e1]; rfl)
                  | (rw [shpF_4 (by omega) (by omega), List.map_take, List.map_set, ← e1, ← e2]; rfl)
                  | (rw [shpF_5 (by omega) (by omega), List.map_take, List.map_set, ← e1, ← e2]; rfl)
                  | (rw [shpF_6 (by omega) (by omega), List.map_set, ← e1]; rfl)
                  | (rw [shpF_7 (by omega), List.map_append]; rfl)
                  | (rw [shpF_x (by omega) (by omega) (by omega) (by omega) (by omega) (by omega) (by omega)]; rfl)
               ·try simp only [dq] at h14
                refine code_skip ?_
                refine blockQ_normal ?_
                refine spk 182 [(0,_),(1,_),(4,_),(5,_),(6,_)] [(4,_),(5,_)] rfl rfl rfl ?_
                refine code_ops _ rfl ?_
                refine ol_pure rfl rfl rfl (pure_move rfl rfl) ?_
                refine ol_pure rfl rfl rfl (pure_addi rfl rfl rfl (by omega)) ?_
                refine ol_pure rfl rfl rfl (pure_assign rfl rfl) ?_
                refine ol_nil ?_
                refine loop_next (n := 182) (l := [(0, _), (1, _), (4, _), (5, _), (6, _)]) (o' := [(4, _), (5, _)]) rfl ⟨rfl, rfl, rfl, rfl, rfl, trivial⟩ ⟨rfl, rfl, trivial⟩ ?_
                refine ⟨_, ⟨i + 1, rfl, by omega, by omega, ?_⟩, by omega⟩
                rw [shpN, hst]
                first
                  | (rw [shpF_01 (by omega), List.map_append]; rfl)
                  | (rw [shpF_2a (by omega) (by omega) (by assumption), List.map_append]; rfl)
                  | (rw [shpF_2b (by omega) (by omega) (by assumption), List.map_append]; rfl)
                  | (rw [shpF_3 (by omega) (by omega), List.map_set, ← e1]; rfl)
                  | (rw [shpF_4 (by omega) (by omega), List.map_take, List.map_set, ← e1, ← e2]; rfl)
                  | (rw [shpF_5 (by omega) (by omega), List.map_take, List.map_set, ← e1, ← e2]; rfl)
                  | (rw [shpF_6 (by omega) (by omega), List.map_set, ← e1]; rfl)
                  | (rw [shpF_7 (by omega), List.map_append]; rfl)
                  | (rw [shpF_x (by omega) (by omega) (by omega) (by omega) (by omega) (by omega) (by omega)]; rfl)
    ·try simp only [dq] at h2
     refine code_exit ?_
     refine seqQ_exit ?_
     refine loopM_exit ?_
     refine blockQ_same ?_
     refine spk 182 [(4,_),(5,_)] [(4,_),(5,_)] rfl rfl rfl ?_
     refine code_seq ?_
     refine code_seq ?_
     have hl16 : i = l.length ∨ i = 16 := by omega
     refine code_ops _ rfl ?_
     refine ol_pure rfl rfl rfl (pure_move rfl rfl) ?_
     refine ol_pure rfl rfl rfl (pure_lenm rfl Tryz.underlying23 rfl) ?_
     refine ol_pure rfl rfl rfl (pure_eql rfl rfl rfl) ?_
     refine ol_nil ?_
     refine spk 182 [(4,_),(5,_),(176,_)] [(4,_),(5,_)] rfl rfl rfl ?_
     refine code_cond rfl (fun h15 => ?_) (fun h15 => ?_)
     ·try simp only [dq] at h15
      refine code_seq ?_
      refine code_frz 182 [(4, _), (5, _)] [(4, _)] hM0 rfl ⟨.inl rfl, .inr ⟨_, _, rfl, rfl, rfl⟩, trivial⟩ ⟨rfl, trivial⟩ ?_
      refine code_ops _ rfl ?_
      refine ol_pure rfl rfl rfl (pure_move rfl rfl) ?_
      first | refine ol_pure rfl rfl rfl (pure_indexn rfl Tryz.underlying23 sz25 rfl rfl (by omega) (fun _ => rfl)) ?_ | refine ol_pure rfl rfl rfl (pure_indexm rfl Tryz.underlying23 sz25 rfl rfl (by omega) (fun _ => rfl)) ?_
      refine ol_pure rfl rfl rfl (pure_load_agg rfl ag25 sz25 rfl (Nat.le_of_ble_eq_true rfl)) ?_
      refine ol_step rfl (step_store_box rfl rfl rfl sz25 rfl rfl rfl rfl (by decide) rfl rfl hM0) ?_
      refine ol_nil ?_
      refine spk 182 [(4,_)] [(4,_)] rfl rfl rfl ?_
      refine code_ret ?_
      refine seqQ_ret ?_
      refine endC_ret rfl ?_
      rw [show shapedP l most = shpE st from by unfold shapedP; rw [show min l.length 16 = i by omega, hst]]
      unfold shpE
      first
        | (rw [if_pos (by omega)]; rfl)
        | (rw [if_neg (by omega)]; rfl)
     ·try simp only [dq] at h15
      refine code_skip ?_
      refine spk 182 [(4,_),(5,_)] [(4,_),(5,_)] rfl rfl rfl ?_
      refine code_seq ?_
      refine code_frz 182 [(4, _), (5, _)] [(4, _)] hM0 rfl ⟨.inl rfl, .inr ⟨_, _, rfl, rfl, rfl⟩, trivial⟩ ⟨rfl, trivial⟩ ?_
      refine code_ops _ rfl ?_
      refine ol_pure rfl rfl rfl (pure_move rfl rfl) ?_
      refine ol_pure rfl rfl rfl (pure_callN rfl rfl rfl rfl (of_call 3 st) hM0) ?_
      refine ol_step rfl (step_store_box rfl rfl rfl sz25 rfl rfl rfl rfl (by decide) rfl rfl hM0) ?_
      refine ol_nil ?_
      refine spk 182 [(4,_)] [(4,_)] rfl rfl rfl ?_
      refine code_ret ?_
      refine endC_ret rfl ?_
      rw [show shapedP l most = shpE st from by unfold shapedP; rw [show min l.length 16 = i by omega, hst]]
      unfold shpE
      first
        | (rw [if_pos (by omega)]; rfl)
        | (rw [if_neg (by omega)]; rfl)
   ·have h1' := h1; try simp only [dq] at h1'
    refine ol_skip_g rfl rfl h1 rfl rfl ?_
    refine ol_skip_g rfl rfl h1 rfl rfl ?_
    refine ol_pure rfl rfl rfl (pure_pick_f rfl rfl h1 rfl) ?_
    refine ol_nil ?_
    refine spk 182 [(0,_),(1,_),(4,_),(5,_),(6,_),(19,_)] [(4,_),(5,_)] rfl rfl rfl ?_
    refine code_cond_f rfl ?_
    refine code_exit ?_
    refine seqQ_exit ?_
    refine loopM_exit ?_
    refine blockQ_same ?_
    refine spk 182 [(4,_),(5,_)] [(4,_),(5,_)] rfl rfl rfl ?_
    refine code_seq ?_
    refine code_seq ?_
    have hl16 : i = l.length ∨ i = 16 := by omega
    refine code_ops _ rfl ?_
    refine ol_pure rfl rfl rfl (pure_move rfl rfl) ?_
    refine ol_pure rfl rfl rfl (pure_lenm rfl Tryz.underlying23 rfl) ?_
    refine ol_pure rfl rfl rfl (pure_eql rfl rfl rfl) ?_
    refine ol_nil ?_
    refine spk 182 [(4,_),(5,_),(176,_)] [(4,_),(5,_)] rfl rfl rfl ?_
    refine code_cond rfl (fun h16 => ?_) (fun h16 => ?_)
    ·try simp only [dq] at h16
     refine code_seq ?_
     refine code_frz 182 [(4, _), (5, _)] [(4, _)] hM0 rfl ⟨.inl rfl, .inr ⟨_, _, rfl, rfl, rfl⟩, trivial⟩ ⟨rfl, trivial⟩ ?_
     refine code_ops _ rfl ?_
     refine ol_pure rfl rfl rfl (pure_move rfl rfl) ?_
     first | refine ol_pure rfl rfl rfl (pure_indexn rfl Tryz.underlying23 sz25 rfl rfl (by omega) (fun _ => rfl)) ?_ | refine ol_pure rfl rfl rfl (pure_indexm rfl Tryz.underlying23 sz25 rfl rfl (by omega) (fun _ => rfl)) ?_
     refine ol_pure rfl rfl rfl (pure_load_agg rfl ag25 sz25 rfl (Nat.le_of_ble_eq_true rfl)) ?_
     refine ol_step rfl (step_store_box rfl rfl rfl sz25 rfl rfl rfl rfl (by decide) rfl rfl hM0) ?_
     refine ol_nil ?_
     refine spk 182 [(4,_)] [(4,_)] rfl rfl rfl ?_
     refine code_ret ?_
     refine seqQ_ret ?_
     refine endC_ret rfl ?_
     rw [show shapedP l most = shpE st from by unfold shapedP; rw [show min l.length 16 = i by omega, hst]]
     unfold shpE
     first
       | (rw [if_pos (by omega)]; rfl)
       | (rw [if_neg (by omega)]; rfl)
    ·try simp only [dq] at h16
     refine code_skip ?_
     refine spk 182 [(4,_),(5,_)] [(4,_),(5,_)] rfl rfl rfl ?_
     refine code_seq ?_
     refine code_frz 182 [(4, _), (5, _)] [(4, _)] hM0 rfl ⟨.inl rfl, .inr ⟨_, _, rfl, rfl, rfl⟩, trivial⟩ ⟨rfl, trivial⟩ ?_
     refine code_ops _ rfl ?_
     refine ol_pure rfl rfl rfl (pure_move rfl rfl) ?_
     refine ol_pure rfl rfl rfl (pure_callN rfl rfl rfl rfl (of_call 3 st) hM0) ?_
     refine ol_step rfl (step_store_box rfl rfl rfl sz25 rfl rfl rfl rfl (by decide) rfl rfl hM0) ?_
     refine ol_nil ?_
     refine spk 182 [(4,_)] [(4,_)] rfl rfl rfl ?_
     refine code_ret ?_
     refine endC_ret rfl ?_
     rw [show shapedP l most = shpE st from by unfold shapedP; rw [show min l.length 16 = i by omega, hst]]
     unfold shpE
     first
       | (rw [if_pos (by omega)]; rfl)
       | (rw [if_neg (by omega)]; rfl)
end Go.Proofs.YtgdehkimfmfofaaGreat

