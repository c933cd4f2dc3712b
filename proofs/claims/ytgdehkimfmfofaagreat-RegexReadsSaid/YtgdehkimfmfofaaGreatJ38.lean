/-
  Contract: the reference's Valid.
-/
import Derived.Test.YtgdehkimfmfofaaGreatJ24
import Derived.Test.YtgdehkimfmfofaaGreatJ17
set_option linter.unusedVariables false
set_option linter.unusedSimpArgs false
namespace Go.Proofs.YtgdehkimfmfofaaGreat
open Go.Am Go.Wc
set_option linter.unusedVariables false
set_option linter.unusedSimpArgs false

theorem fn125 : Fn1 Tryz.prog 125 Tryz.f125.ntmps 2 (Tryz.f125.body.getD .skip) := ⟨Tryz.f125, Tryz.func125, rfl, rfl, rfl, by kernel_rfl⟩
set_option maxRecDepth 100000 in
set_option maxHeartbeats 2000000 in
theorem reserved_call {c : UInt8} : CallF Tryz.prog 125 [byte c] (.p (bool (resB c))) := by
  refine callF_of_code fn125 (Nat.le_of_ble_eq_true rfl) fun w0 M0 hM0 => ?_
  refine xC tb hM0 12 [0,3] [] rfl ?_
  refine lp (fun zm zs => ∃ k : Nat, zm = 30 - k ∧ (k ≤ 30) ∧ ((resL.take k).contains c = false) ∧ zs = ⟨14, [(0, .v .mx (byte c)), (3, .v .pl (int k))], []⟩) ?_ ?_
  exact ⟨_, 0, rfl, Nat.zero_le _, rfl, rfl⟩
  rintro zm zs ⟨k, rfl, hL1_0, hL1_1, rfl⟩
  refine xA tb hM0 7 [0,3,5] [] rfl ?_
  refine spC 5 rfl ?_ ?_ <;> intro h1 <;> try simp only [dq] at h1
  refine xA tb hM0 8 [0,3,8] [] rfl ?_
  refine oP rfl (pure_sindex rfl Tryz.underlying9 rfl rfl (by refine ⟨by omega, ?_⟩; simp only [List.length_cons, List.length_nil]; omega)) ?_
  refine xA tb hM0 1 [0,3,9,10] [] rfl ?_
  refine oP rfl (pure_eql rfl rfl rfl) ?_
  refine xA tb hM0 2 [0,3,11] [] rfl ?_
  refine spC 11 rfl ?_ ?_ <;> intro h2 <;> try simp only [dq] at h2
  refine xA tb hM0 12 [] [] rfl ?_
  refine end_ret rfl ?_
  rw [resB_hit (k := k) (by omega) h2]
  refine xA tb hM0 6 [0,6] [] rfl ?_
  refine oP rfl (pure_addi rfl rfl rfl (by omega)) ?_
  refine xA tb hM0 2 [0,3] [] rfl ?_
  refine nx ?_
  exact ⟨_, ⟨k + 1, rfl, by omega, resB_step (by omega) hL1_1 h2, rfl⟩, by omega⟩
  refine xA tb hM0 9 [12] [] rfl ?_
  refine oP rfl (pure_lss rfl rfl rfl) ?_
  refine xA tb hM0 4 [] [] rfl ?_
  refine end_ret rfl ?_
  rw [resB_end (k := k) (by omega) hL1_1]
theorem fn95 : Fn1 Tryz.prog 95 Tryz.f95.ntmps 2 (Tryz.f95.body.getD .skip) := ⟨Tryz.f95, Tryz.func95, rfl, rfl, rfl, by kernel_rfl⟩
set_option maxRecDepth 100000 in
set_option maxHeartbeats 2000000 in
theorem plain_call {s : List UInt8} (hs : s.length ≤ 9223372036854775807) : CallF Tryz.prog 95 [sbytes s] (.p (bool (plainT s))) := by
  refine callF_of_code fn95 (Nat.le_of_ble_eq_true rfl) fun w0 M0 hM0 => ?_
  refine xC tb hM0 12 [0,3] [] rfl ?_
  refine lp (fun zm zs => ∃ k : Nat, zm = s.length - k ∧ (k ≤ s.length) ∧ ((s.take k).all (fun c => !resB c) = true) ∧ zs = ⟨22, [(0, .v .mx (sbytes s)), (3, .v .pl (int k))], []⟩) ?_ ?_
  exact ⟨_, 0, rfl, Nat.zero_le _, rfl, rfl⟩
  rintro zm zs ⟨k, rfl, hL1_0, hL1_1, rfl⟩
  refine xA tb hM0 5 [0,3,4,5] [] rfl ?_
  refine oP rfl (pure_slen rfl Tryz.underlying9 rfl) ?_
  refine xA tb hM0 3 [0,3,7] [] rfl ?_
  refine spC 7 rfl ?_ ?_ <;> intro h1 <;> try simp only [dq] at h1
  refine xA tb hM0 9 [0,3,10,11] [] rfl ?_
  refine oP rfl (pure_sindex rfl Tryz.underlying9 rfl rfl (by omega)) ?_
  refine oP rfl (pure_call rfl rfl rfl (reserved_call) hM0) ?_
  refine xA tb hM0 2 [0,3,13] [] rfl ?_
  refine spC 13 rfl ?_ ?_ <;> intro h2 <;> try simp only [dq] at h2
  refine xA tb hM0 12 [] [] rfl ?_
  refine end_ret rfl ?_
  rw [plainT_hit (k := k) (by omega) h2]
  refine xA tb hM0 6 [0,8] [] rfl ?_
  refine oP rfl (pure_addi rfl rfl rfl (by omega)) ?_
  refine xA tb hM0 2 [0,3] [] rfl ?_
  refine nx ?_
  exact ⟨_, ⟨k + 1, rfl, by omega, plainT_step (by omega) hL1_1 h2, rfl⟩, by omega⟩
  refine xA tb hM0 9 [0,14] [] rfl ?_
  refine oP rfl (pure_slen rfl Tryz.underlying9 rfl) ?_
  refine xA tb hM0 2 [0,17] [] rfl ?_
  refine spO 17 rfl ?_ ?_ <;> intro h3' <;> try simp only [dq] at h3'
  refine xA tb hM0 1 [17,18] [] rfl ?_
  refine oP rfl (pure_slen rfl Tryz.underlying9 rfl) ?_
  refine xA tb hM0 6 [] [] rfl ?_
  refine end_ret rfl ?_; rotate_left
  refine xA tb hM0 8 [] [] rfl ?_
  refine end_ret rfl ?_; rotate_left
  all_goals
    rw [plainT_end (k := k) (by omega) hL1_1]
    first | (rw [decide_eq_false (p := 1 ≤ s.length) (by omega)]; rfl) | (rw [decide_eq_true (p := 1 ≤ s.length) (by omega), Bool.true_and]; congr 4; apply propext; omega)
end Go.Proofs.YtgdehkimfmfofaaGreat

namespace Go.Proofs.YtgdehkimfmfofaaGreat
open Go.Am Go.Wc
set_option linter.unusedVariables false
set_option linter.unusedSimpArgs false

theorem fn62 : Fn1 Tryz.prog 62 Tryz.f62.ntmps 2 (Tryz.f62.body.getD .skip) := ⟨Tryz.f62, Tryz.func62, rfl, rfl, rfl, by kernel_rfl⟩
set_option maxRecDepth 100000 in
set_option maxHeartbeats 4000000 in
theorem rvalidA_call {a : List Letter} (ha : a.length ≤ 1099511627776) (ht : ∀ x ∈ a, x.text.length ≤ 9223372036854775807) : CallF Tryz.prog 62 [letters a] (.p (bool (validA a))) := by
  have htx : ∀ i : Nat, (a.getD i default).text.length ≤ 9223372036854775807 := fun i => by
    rw [List.getD_eq_getElem?_getD]
    cases hx : a[i]? with
    | none => exact Nat.zero_le _
    | some x => exact ht x (List.mem_of_getElem? hx)
  refine callF_of_code fn62 (Nat.le_of_ble_eq_true rfl) fun w0 M0 hM0 => ?_
  refine xC tb hM0 9 [0,6] [] rfl ?_
  refine oP rfl (pure_lenm rfl Tryz.underlying39 rfl) ?_
  refine xA tb hM0 2 [0,9] [] rfl ?_
  refine spO 9 rfl ?_ ?_ <;> intro h1' <;> try simp only [dq] at h1'
  refine xA tb hM0 14 [] [] rfl ?_
  refine end_ret rfl ?_; rotate_left
  refine xA tb hM0 1 [0,9,10] [] rfl ?_
  refine oP rfl (pure_lenm rfl Tryz.underlying39 rfl) ?_
  refine xA tb hM0 4 [0,13] [] rfl ?_
  refine spC 13 rfl ?_ ?_ <;> intro h2 <;> try simp only [dq] at h2
  refine xA tb hM0 8 [] [] rfl ?_
  refine end_ret rfl ?_; rotate_left
  refine xA tb hM0 10 [0,3] [] rfl ?_
  refine lp (fun zm zs => ∃ i : Nat, zm = a.length - i ∧ (i ≤ a.length) ∧ (∀ j, j < i → okP a j) ∧ zs = ⟨108, [(0, .v .mx (letters a)), (3, .v .pl (int i))], []⟩) ?_ ?_
  exact ⟨_, 0, rfl, Nat.zero_le _, fun j hj => absurd hj (by omega), rfl⟩
  rintro zm zs ⟨i, rfl, hL1_0, hL1_1, rfl⟩
  refine xA tb hM0 5 [0,3,14,15] [] rfl ?_
  refine oP rfl (pure_lenm rfl Tryz.underlying39 rfl) ?_
  refine xA tb hM0 3 [0,3,17] [] rfl ?_
  refine spC 17 rfl ?_ ?_ <;> intro h3 <;> try simp only [dq] at h3
  refine xA tb hM0 9 [0,3,20,21] [] rfl ?_
  refine oP rfl (pure_ix rfl Tryz.underlying39 sz83 rfl rfl (by omega) (fun _ => rfl)) ?_
  refine xA tb hM0 6 [0,3,4] [4] rfl ?_
  refine ct (fun zs => ∃ z : Bool, (z = true → ¬ ok1P a (a.getD i default)) ∧ (z = false → ok1P a (a.getD i default)) ∧ zs = ⟨108, [(0, .v .mx (letters a)), (3, .v .pl (int i)), (4, .pbox 4 0), (80, .v .pl (bool z))], [(4, .box 83 (lcells .mx (a.getD i default)))]⟩) ?_ ?_
  refine code_draw mixed (by kernel_rfl) _ rfl ?_
  refine dl_pure rfl rfl rfl (pure_field_box rfl fd83_0 rfl rfl) ?_
  refine dl_pure rfl rfl rfl (pure_load_box rfl ag9 rfl rfl rfl) ?_
  refine dl_pure rfl rfl rfl (pure_call rfl rfl rfl (plain_call (htx _)) hM0) ?_
  refine dl_pure rfl rfl rfl (pure_not rfl rfl) ?_
  refine dl_pure rfl rfl rfl (pure_move rfl rfl) ?_
  refine dl_guard rfl (fun h4 => ?_) (fun h4 => ?_)
  have h4' := h4; try simp only [dq] at h4'
  refine dl_skip_g rfl rfl h4 rfl rfl ?_
  refine dl_skip_g rfl rfl h4 rfl rfl ?_
  refine dpk 108 [(0,_),(3,_),(4,_),(28,_),(30,_)] [(4,_)] rfl rfl rfl ?_
  refine dl_skip_g rfl rfl h4 rfl rfl ?_
  refine dl_pure rfl rfl rfl (pure_pick_t rfl rfl h4 rfl) ?_
  refine dl_pure rfl rfl rfl (pure_move rfl rfl) ?_
  refine dl_skip_g rfl rfl rfl rfl rfl ?_
  refine dl_skip_g rfl rfl rfl rfl rfl ?_
  refine dl_skip_g rfl rfl rfl rfl rfl ?_
  refine dl_skip_g rfl rfl rfl rfl rfl ?_
  refine dpk 108 [(0,_),(3,_),(4,_),(33,_),(35,_),(37,_)] [(4,_)] rfl rfl rfl ?_
  refine dl_skip_g rfl rfl rfl rfl rfl ?_
  refine dl_pure rfl rfl rfl (pure_pick_t rfl rfl rfl rfl) ?_
  refine dl_pure rfl rfl rfl (pure_move rfl rfl) ?_
  refine dl_skip_g rfl rfl rfl rfl rfl ?_
  refine dl_skip_g rfl rfl rfl rfl rfl ?_
  refine dl_skip_g rfl rfl rfl rfl rfl ?_
  refine dl_skip_g rfl rfl rfl rfl rfl ?_
  refine dpk 108 [(0,_),(3,_),(4,_),(40,_),(44,_)] [(4,_)] rfl rfl rfl ?_
  refine dl_skip_g rfl rfl rfl rfl rfl ?_
  refine dl_skip_g rfl rfl rfl rfl rfl ?_
  refine dl_skip_g rfl rfl rfl rfl rfl ?_
  refine dl_skip_g rfl rfl rfl rfl rfl ?_
  refine dl_skip_g rfl rfl rfl rfl rfl ?_
  refine dl_pure rfl rfl rfl (pure_pick_t rfl rfl rfl rfl) ?_
  refine dl_pure rfl rfl rfl (pure_move rfl rfl) ?_
  refine dpk 108 [(0,_),(3,_),(4,_),(51,_)] [(4,_)] rfl rfl rfl ?_
  refine dl_skip_g rfl rfl rfl rfl rfl ?_
  refine dl_skip_g rfl rfl rfl rfl rfl ?_
  refine dl_skip_g rfl rfl rfl rfl rfl ?_
  refine dl_pure rfl rfl rfl (pure_pick_t rfl rfl rfl rfl) ?_
  refine dl_pure rfl rfl rfl (pure_move rfl rfl) ?_
  refine dl_skip_g rfl rfl rfl rfl rfl ?_
  refine dl_skip_g rfl rfl rfl rfl rfl ?_
  refine dpk 108 [(0,_),(3,_),(4,_),(56,_),(58,_)] [(4,_)] rfl rfl rfl ?_
  refine dl_skip_g rfl rfl rfl rfl rfl ?_
  refine dl_pure rfl rfl rfl (pure_pick_t rfl rfl rfl rfl) ?_
  refine dl_pure rfl rfl rfl (pure_move rfl rfl) ?_
  refine dl_skip_g rfl rfl rfl rfl rfl ?_
  refine dl_skip_g rfl rfl rfl rfl rfl ?_
  refine dl_skip_g rfl rfl rfl rfl rfl ?_
  refine dl_pure rfl rfl rfl (pure_pick_t rfl rfl rfl rfl) ?_
  refine dpk 108 [(0,_),(3,_),(4,_),(65,_)] [(4,_)] rfl rfl rfl ?_
  refine dl_pure rfl rfl rfl (pure_move rfl rfl) ?_
  refine dl_skip_g rfl rfl rfl rfl rfl ?_
  refine dl_skip_g rfl rfl rfl rfl rfl ?_
  refine dl_skip_g rfl rfl rfl rfl rfl ?_
  refine dl_pure rfl rfl rfl (pure_pick_t rfl rfl rfl rfl) ?_
  refine dl_pure rfl rfl rfl (pure_move rfl rfl) ?_
  refine dl_skip_g rfl rfl rfl rfl rfl ?_
  refine dpk 108 [(0,_),(3,_),(4,_),(71,_),(72,_)] [(4,_)] rfl rfl rfl ?_
  refine dl_skip_g rfl rfl rfl rfl rfl ?_
  refine dl_skip_g rfl rfl rfl rfl rfl ?_
  refine dl_pure rfl rfl rfl (pure_pick_t rfl rfl rfl rfl) ?_
  refine dl_pure rfl rfl rfl (pure_move rfl rfl) ?_
  refine dl_skip_g rfl rfl rfl rfl rfl ?_
  refine dl_skip_g rfl rfl rfl rfl rfl ?_
  refine dl_skip_g rfl rfl rfl rfl rfl ?_
  refine dl_pure rfl rfl rfl (pure_pick_t rfl rfl rfl rfl) ?_
  refine dl_nil ?_
  refine xD tb hM0 0 [0,3,4,80] [4] rfl ?_
  refine cx ?_; rotate_left
  have h4' := h4; try simp only [dq] at h4'
  refine dl_pure_g rfl rfl h4 rfl rfl (pure_field_box rfl fd83_1 rfl rfl) ?_
  refine dl_pure_g rfl rfl h4 rfl rfl (pure_load_box rfl ag3 rfl rfl rfl) ?_
  refine dpk 108 [(0,_),(3,_),(4,_),(28,_),(30,_)] [(4,_)] rfl rfl rfl ?_
  refine dl_pure_g rfl rfl h4 rfl rfl (pure_lss rfl rfl rfl) ?_
  refine dl_pure rfl rfl rfl (pure_pick_f rfl rfl h4 rfl) ?_
  refine dl_pure rfl rfl rfl (pure_move rfl rfl) ?_
  refine dl_guard rfl (fun h5 => ?_) (fun h5 => ?_)
  have h5' := h5; try simp only [dq] at h5'
  refine dl_skip_g rfl rfl h5 rfl rfl ?_
  refine dl_skip_g rfl rfl h5 rfl rfl ?_
  refine dl_skip_g rfl rfl h5 rfl rfl ?_
  refine dl_skip_g rfl rfl h5 rfl rfl ?_
  refine dpk 108 [(0,_),(3,_),(4,_),(33,_),(35,_),(37,_)] [(4,_)] rfl rfl rfl ?_
  refine dl_skip_g rfl rfl h5 rfl rfl ?_
  refine dl_pure rfl rfl rfl (pure_pick_t rfl rfl h5 rfl) ?_
  refine dl_pure rfl rfl rfl (pure_move rfl rfl) ?_
  refine dl_skip_g rfl rfl rfl rfl rfl ?_
  refine dl_skip_g rfl rfl rfl rfl rfl ?_
  refine dl_skip_g rfl rfl rfl rfl rfl ?_
  refine dl_skip_g rfl rfl rfl rfl rfl ?_
  refine dpk 108 [(0,_),(3,_),(4,_),(40,_),(44,_)] [(4,_)] rfl rfl rfl ?_
  refine dl_skip_g rfl rfl rfl rfl rfl ?_
  refine dl_skip_g rfl rfl rfl rfl rfl ?_
  refine dl_skip_g rfl rfl rfl rfl rfl ?_
  refine dl_skip_g rfl rfl rfl rfl rfl ?_
  refine dl_skip_g rfl rfl rfl rfl rfl ?_
  refine dl_pure rfl rfl rfl (pure_pick_t rfl rfl rfl rfl) ?_
  refine dl_pure rfl rfl rfl (pure_move rfl rfl) ?_
  refine dpk 108 [(0,_),(3,_),(4,_),(51,_)] [(4,_)] rfl rfl rfl ?_
  refine dl_skip_g rfl rfl rfl rfl rfl ?_
  refine dl_skip_g rfl rfl rfl rfl rfl ?_
  refine dl_skip_g rfl rfl rfl rfl rfl ?_
  refine dl_pure rfl rfl rfl (pure_pick_t rfl rfl rfl rfl) ?_
  refine dl_pure rfl rfl rfl (pure_move rfl rfl) ?_
  refine dl_skip_g rfl rfl rfl rfl rfl ?_
  refine dl_skip_g rfl rfl rfl rfl rfl ?_
  refine dpk 108 [(0,_),(3,_),(4,_),(56,_),(58,_)] [(4,_)] rfl rfl rfl ?_
  refine dl_skip_g rfl rfl rfl rfl rfl ?_
  refine dl_pure rfl rfl rfl (pure_pick_t rfl rfl rfl rfl) ?_
  refine dl_pure rfl rfl rfl (pure_move rfl rfl) ?_
  refine dl_skip_g rfl rfl rfl rfl rfl ?_
  refine dl_skip_g rfl rfl rfl rfl rfl ?_
  refine dl_skip_g rfl rfl rfl rfl rfl ?_
  refine dl_pure rfl rfl rfl (pure_pick_t rfl rfl rfl rfl) ?_
  refine dpk 108 [(0,_),(3,_),(4,_),(65,_)] [(4,_)] rfl rfl rfl ?_
  refine dl_pure rfl rfl rfl (pure_move rfl rfl) ?_
  refine dl_skip_g rfl rfl rfl rfl rfl ?_
  refine dl_skip_g rfl rfl rfl rfl rfl ?_
  refine dl_skip_g rfl rfl rfl rfl rfl ?_
  refine dl_pure rfl rfl rfl (pure_pick_t rfl rfl rfl rfl) ?_
  refine dl_pure rfl rfl rfl (pure_move rfl rfl) ?_
  refine dl_skip_g rfl rfl rfl rfl rfl ?_
  refine dpk 108 [(0,_),(3,_),(4,_),(71,_),(72,_)] [(4,_)] rfl rfl rfl ?_
  refine dl_skip_g rfl rfl rfl rfl rfl ?_
  refine dl_skip_g rfl rfl rfl rfl rfl ?_
  refine dl_pure rfl rfl rfl (pure_pick_t rfl rfl rfl rfl) ?_
  refine dl_pure rfl rfl rfl (pure_move rfl rfl) ?_
  refine dl_skip_g rfl rfl rfl rfl rfl ?_
  refine dl_skip_g rfl rfl rfl rfl rfl ?_
  refine dl_skip_g rfl rfl rfl rfl rfl ?_
  refine dl_pure rfl rfl rfl (pure_pick_t rfl rfl rfl rfl) ?_
  refine dl_nil ?_
  refine xD tb hM0 0 [0,3,4,80] [4] rfl ?_
  refine cx ?_; rotate_left
  have h5' := h5; try simp only [dq] at h5'
  refine dl_pure_g rfl rfl h5 rfl rfl (pure_field_box rfl fd83_1 rfl rfl) ?_
  refine dl_pure_g rfl rfl h5 rfl rfl (pure_load_box rfl ag3 rfl rfl rfl) ?_
  refine dl_pure_g rfl rfl h5 rfl rfl (pure_move rfl rfl) ?_
  refine dl_pure_g rfl rfl h5 rfl rfl (pure_lenm rfl Tryz.underlying39 rfl) ?_
  refine dpk 108 [(0,_),(3,_),(4,_),(33,_),(35,_),(37,_)] [(4,_)] rfl rfl rfl ?_
  refine dl_pure_g rfl rfl h5 rfl rfl (pure_geq rfl rfl rfl) ?_
  refine dl_pure rfl rfl rfl (pure_pick_f rfl rfl h5 rfl) ?_
  refine dl_pure rfl rfl rfl (pure_move rfl rfl) ?_
  refine dl_guard rfl (fun h6 => ?_) (fun h6 => ?_)
  have h6' := h6; try simp only [dq] at h6'
  refine dl_skip_g rfl rfl h6 rfl rfl ?_
  refine dl_skip_g rfl rfl h6 rfl rfl ?_
  refine dl_skip_g rfl rfl h6 rfl rfl ?_
  refine dl_skip_g rfl rfl h6 rfl rfl ?_
  refine dpk 108 [(0,_),(3,_),(4,_),(40,_),(44,_)] [(4,_)] rfl rfl rfl ?_
  refine dl_skip_g rfl rfl h6 rfl rfl ?_
  refine dl_skip_g rfl rfl h6 rfl rfl ?_
  refine dl_skip_g rfl rfl h6 rfl rfl ?_
  refine dl_skip_g rfl rfl h6 rfl rfl ?_
  refine dl_skip_g rfl rfl h6 rfl rfl ?_
  refine dl_pure rfl rfl rfl (pure_pick_t rfl rfl h6 rfl) ?_
  refine dl_pure rfl rfl rfl (pure_move rfl rfl) ?_
  refine dpk 108 [(0,_),(3,_),(4,_),(51,_)] [(4,_)] rfl rfl rfl ?_
  refine dl_skip_g rfl rfl rfl rfl rfl ?_
  refine dl_skip_g rfl rfl rfl rfl rfl ?_
  refine dl_skip_g rfl rfl rfl rfl rfl ?_
  refine dl_pure rfl rfl rfl (pure_pick_t rfl rfl rfl rfl) ?_
  refine dl_pure rfl rfl rfl (pure_move rfl rfl) ?_
  refine dl_skip_g rfl rfl rfl rfl rfl ?_
  refine dl_skip_g rfl rfl rfl rfl rfl ?_
  refine dpk 108 [(0,_),(3,_),(4,_),(56,_),(58,_)] [(4,_)] rfl rfl rfl ?_
  refine dl_skip_g rfl rfl rfl rfl rfl ?_
  refine dl_pure rfl rfl rfl (pure_pick_t rfl rfl rfl rfl) ?_
  refine dl_pure rfl rfl rfl (pure_move rfl rfl) ?_
  refine dl_skip_g rfl rfl rfl rfl rfl ?_
  refine dl_skip_g rfl rfl rfl rfl rfl ?_
  refine dl_skip_g rfl rfl rfl rfl rfl ?_
  refine dl_pure rfl rfl rfl (pure_pick_t rfl rfl rfl rfl) ?_
  refine dpk 108 [(0,_),(3,_),(4,_),(65,_)] [(4,_)] rfl rfl rfl ?_
  refine dl_pure rfl rfl rfl (pure_move rfl rfl) ?_
  refine dl_skip_g rfl rfl rfl rfl rfl ?_
  refine dl_skip_g rfl rfl rfl rfl rfl ?_
  refine dl_skip_g rfl rfl rfl rfl rfl ?_
  refine dl_pure rfl rfl rfl (pure_pick_t rfl rfl rfl rfl) ?_
  refine dl_pure rfl rfl rfl (pure_move rfl rfl) ?_
  refine dl_skip_g rfl rfl rfl rfl rfl ?_
  refine dpk 108 [(0,_),(3,_),(4,_),(71,_),(72,_)] [(4,_)] rfl rfl rfl ?_
  refine dl_skip_g rfl rfl rfl rfl rfl ?_
  refine dl_skip_g rfl rfl rfl rfl rfl ?_
  refine dl_pure rfl rfl rfl (pure_pick_t rfl rfl rfl rfl) ?_
  refine dl_pure rfl rfl rfl (pure_move rfl rfl) ?_
  refine dl_skip_g rfl rfl rfl rfl rfl ?_
  refine dl_skip_g rfl rfl rfl rfl rfl ?_
  refine dl_skip_g rfl rfl rfl rfl rfl ?_
  refine dl_pure rfl rfl rfl (pure_pick_t rfl rfl rfl rfl) ?_
  refine dl_nil ?_
  refine xD tb hM0 0 [0,3,4,80] [4] rfl ?_
  refine cx ?_; rotate_left
  have h6' := h6; try simp only [dq] at h6'
  refine dl_pure_g rfl rfl h6 rfl rfl (pure_move rfl rfl) ?_
  refine dl_pure_g rfl rfl h6 rfl rfl (pure_field_box rfl fd83_1 rfl rfl) ?_
  refine dl_pure_g rfl rfl h6 rfl rfl (pure_load_box rfl ag3 rfl rfl rfl) ?_
  refine dl_pure_g rfl rfl h6 rfl rfl (pure_ix rfl Tryz.underlying39 sz83 rfl rfl (by omega) (fun _ => rfl)) ?_
  refine dpk 108 [(0,_),(3,_),(4,_),(40,_),(44,_)] [(4,_)] rfl rfl rfl ?_
  refine dl_pure_g rfl rfl h6 rfl rfl (pure_field rfl fd83_1 rfl) ?_
  refine dl_pure_g rfl rfl h6 rfl rfl (pure_load rfl ag3 rfl rfl) ?_
  refine dl_pure_g rfl rfl h6 rfl rfl (pure_field_box rfl fd83_1 rfl rfl) ?_
  refine dl_pure_g rfl rfl h6 rfl rfl (pure_load_box rfl ag3 rfl rfl rfl) ?_
  refine dl_pure_g rfl rfl h6 rfl rfl (pure_neq rfl rfl rfl) ?_
  refine dl_pure rfl rfl rfl (pure_pick_f rfl rfl h6 rfl) ?_
  refine dl_pure rfl rfl rfl (pure_move rfl rfl) ?_
  refine dpk 108 [(0,_),(3,_),(4,_),(51,_)] [(4,_)] rfl rfl rfl ?_
  refine dl_guard rfl (fun h7 => ?_) (fun h7 => ?_)
  have h7' := h7; try simp only [dq] at h7'
  refine dpk 108 [(0,_),(3,_),(4,_),(51,_)] [(4,_)] rfl rfl rfl ?_
  refine dl_skip_g rfl rfl h7 rfl rfl ?_
  refine dl_skip_g rfl rfl h7 rfl rfl ?_
  refine dl_skip_g rfl rfl h7 rfl rfl ?_
  refine dl_pure rfl rfl rfl (pure_pick_t rfl rfl h7 rfl) ?_
  refine dl_pure rfl rfl rfl (pure_move rfl rfl) ?_
  refine dl_skip_g rfl rfl rfl rfl rfl ?_
  refine dl_skip_g rfl rfl rfl rfl rfl ?_
  refine dpk 108 [(0,_),(3,_),(4,_),(56,_),(58,_)] [(4,_)] rfl rfl rfl ?_
  refine dl_skip_g rfl rfl rfl rfl rfl ?_
  refine dl_pure rfl rfl rfl (pure_pick_t rfl rfl rfl rfl) ?_
  refine dl_pure rfl rfl rfl (pure_move rfl rfl) ?_
  refine dl_skip_g rfl rfl rfl rfl rfl ?_
  refine dl_skip_g rfl rfl rfl rfl rfl ?_
  refine dl_skip_g rfl rfl rfl rfl rfl ?_
  refine dl_pure rfl rfl rfl (pure_pick_t rfl rfl rfl rfl) ?_
  refine dpk 108 [(0,_),(3,_),(4,_),(65,_)] [(4,_)] rfl rfl rfl ?_
  refine dl_pure rfl rfl rfl (pure_move rfl rfl) ?_
  refine dl_skip_g rfl rfl rfl rfl rfl ?_
  refine dl_skip_g rfl rfl rfl rfl rfl ?_
  refine dl_skip_g rfl rfl rfl rfl rfl ?_
  refine dl_pure rfl rfl rfl (pure_pick_t rfl rfl rfl rfl) ?_
  refine dl_pure rfl rfl rfl (pure_move rfl rfl) ?_
  refine dl_skip_g rfl rfl rfl rfl rfl ?_
  refine dpk 108 [(0,_),(3,_),(4,_),(71,_),(72,_)] [(4,_)] rfl rfl rfl ?_
  refine dl_skip_g rfl rfl rfl rfl rfl ?_
  refine dl_skip_g rfl rfl rfl rfl rfl ?_
  refine dl_pure rfl rfl rfl (pure_pick_t rfl rfl rfl rfl) ?_
  refine dl_pure rfl rfl rfl (pure_move rfl rfl) ?_
  refine dl_skip_g rfl rfl rfl rfl rfl ?_
  refine dl_skip_g rfl rfl rfl rfl rfl ?_
  refine dl_skip_g rfl rfl rfl rfl rfl ?_
  refine dl_pure rfl rfl rfl (pure_pick_t rfl rfl rfl rfl) ?_
  refine dl_nil ?_
  refine xD tb hM0 0 [0,3,4,80] [4] rfl ?_
  refine cx ?_; rotate_left
  have h7' := h7; try simp only [dq] at h7'
  refine dpk 108 [(0,_),(3,_),(4,_),(51,_)] [(4,_)] rfl rfl rfl ?_
  refine dl_pure_g rfl rfl h7 rfl rfl (pure_field_box rfl fd83_2 rfl rfl) ?_
  refine dl_pure_g rfl rfl h7 rfl rfl (pure_load_box rfl ag3 rfl rfl rfl) ?_
  refine dl_pure_g rfl rfl h7 rfl rfl (pure_lss rfl rfl rfl) ?_
  refine dl_pure rfl rfl rfl (pure_pick_f rfl rfl h7 rfl) ?_
  refine dl_pure rfl rfl rfl (pure_move rfl rfl) ?_
  refine dl_guard rfl (fun h8 => ?_) (fun h8 => ?_)
  have h8' := h8; try simp only [dq] at h8'
  refine dl_skip_g rfl rfl h8 rfl rfl ?_
  refine dl_skip_g rfl rfl h8 rfl rfl ?_
  refine dpk 108 [(0,_),(3,_),(4,_),(56,_),(58,_)] [(4,_)] rfl rfl rfl ?_
  refine dl_skip_g rfl rfl h8 rfl rfl ?_
  refine dl_pure rfl rfl rfl (pure_pick_t rfl rfl h8 rfl) ?_
  refine dl_pure rfl rfl rfl (pure_move rfl rfl) ?_
  refine dl_skip_g rfl rfl rfl rfl rfl ?_
  refine dl_skip_g rfl rfl rfl rfl rfl ?_
  refine dl_skip_g rfl rfl rfl rfl rfl ?_
  refine dl_pure rfl rfl rfl (pure_pick_t rfl rfl rfl rfl) ?_
  refine dpk 108 [(0,_),(3,_),(4,_),(65,_)] [(4,_)] rfl rfl rfl ?_
  refine dl_pure rfl rfl rfl (pure_move rfl rfl) ?_
  refine dl_skip_g rfl rfl rfl rfl rfl ?_
  refine dl_skip_g rfl rfl rfl rfl rfl ?_
  refine dl_skip_g rfl rfl rfl rfl rfl ?_
  refine dl_pure rfl rfl rfl (pure_pick_t rfl rfl rfl rfl) ?_
  refine dl_pure rfl rfl rfl (pure_move rfl rfl) ?_
  refine dl_skip_g rfl rfl rfl rfl rfl ?_
  refine dpk 108 [(0,_),(3,_),(4,_),(71,_),(72,_)] [(4,_)] rfl rfl rfl ?_
  refine dl_skip_g rfl rfl rfl rfl rfl ?_
  refine dl_skip_g rfl rfl rfl rfl rfl ?_
  refine dl_pure rfl rfl rfl (pure_pick_t rfl rfl rfl rfl) ?_
  refine dl_pure rfl rfl rfl (pure_move rfl rfl) ?_
  refine dl_skip_g rfl rfl rfl rfl rfl ?_
  refine dl_skip_g rfl rfl rfl rfl rfl ?_
  refine dl_skip_g rfl rfl rfl rfl rfl ?_
  refine dl_pure rfl rfl rfl (pure_pick_t rfl rfl rfl rfl) ?_
  refine dl_nil ?_
  refine xD tb hM0 0 [0,3,4,80] [4] rfl ?_
  refine cx ?_; rotate_left
  have h8' := h8; try simp only [dq] at h8'
  refine dl_pure_g rfl rfl h8 rfl rfl (pure_field_box rfl fd83_2 rfl rfl) ?_
  refine dl_pure_g rfl rfl h8 rfl rfl (pure_load_box rfl ag3 rfl rfl rfl) ?_
  refine dpk 108 [(0,_),(3,_),(4,_),(56,_),(58,_)] [(4,_)] rfl rfl rfl ?_
  refine dl_pure_g rfl rfl h8 rfl rfl (pure_gtr rfl rfl rfl) ?_
  refine dl_pure rfl rfl rfl (pure_pick_f rfl rfl h8 rfl) ?_
  refine dl_pure rfl rfl rfl (pure_move rfl rfl) ?_
  refine dl_guard rfl (fun h9 => ?_) (fun h9 => ?_)
  have h9' := h9; try simp only [dq] at h9'
  refine dl_skip_g rfl rfl h9 rfl rfl ?_
  refine dl_skip_g rfl rfl h9 rfl rfl ?_
  refine dl_skip_g rfl rfl h9 rfl rfl ?_
  refine dl_pure rfl rfl rfl (pure_pick_t rfl rfl h9 rfl) ?_
  refine dpk 108 [(0,_),(3,_),(4,_),(65,_)] [(4,_)] rfl rfl rfl ?_
  refine dl_pure rfl rfl rfl (pure_move rfl rfl) ?_
  refine dl_skip_g rfl rfl rfl rfl rfl ?_
  refine dl_skip_g rfl rfl rfl rfl rfl ?_
  refine dl_skip_g rfl rfl rfl rfl rfl ?_
  refine dl_pure rfl rfl rfl (pure_pick_t rfl rfl rfl rfl) ?_
  refine dl_pure rfl rfl rfl (pure_move rfl rfl) ?_
  refine dl_skip_g rfl rfl rfl rfl rfl ?_
  refine dpk 108 [(0,_),(3,_),(4,_),(71,_),(72,_)] [(4,_)] rfl rfl rfl ?_
  refine dl_skip_g rfl rfl rfl rfl rfl ?_
  refine dl_skip_g rfl rfl rfl rfl rfl ?_
  refine dl_pure rfl rfl rfl (pure_pick_t rfl rfl rfl rfl) ?_
  refine dl_pure rfl rfl rfl (pure_move rfl rfl) ?_
  refine dl_skip_g rfl rfl rfl rfl rfl ?_
  refine dl_skip_g rfl rfl rfl rfl rfl ?_
  refine dl_skip_g rfl rfl rfl rfl rfl ?_
  refine dl_pure rfl rfl rfl (pure_pick_t rfl rfl rfl rfl) ?_
  refine dl_nil ?_
  refine xD tb hM0 0 [0,3,4,80] [4] rfl ?_
  refine cx ?_; rotate_left
  have h9' := h9; try simp only [dq] at h9'
  refine dl_pure_g rfl rfl h9 rfl rfl (pure_field_box rfl fd83_3 rfl rfl) ?_
  refine dl_pure_g rfl rfl h9 rfl rfl (pure_load_box rfl ag3 rfl rfl rfl) ?_
  refine dl_pure_g rfl rfl h9 rfl rfl (pure_lss rfl rfl rfl) ?_
  refine dl_pure rfl rfl rfl (pure_pick_f rfl rfl h9 rfl) ?_
  refine dpk 108 [(0,_),(3,_),(4,_),(65,_)] [(4,_)] rfl rfl rfl ?_
  refine dl_pure rfl rfl rfl (pure_move rfl rfl) ?_
  refine dl_guard rfl (fun h10 => ?_) (fun h10 => ?_)
  have h10' := h10; try simp only [dq] at h10'
  refine dl_skip_g rfl rfl h10 rfl rfl ?_
  refine dl_skip_g rfl rfl h10 rfl rfl ?_
  refine dl_skip_g rfl rfl h10 rfl rfl ?_
  refine dl_pure rfl rfl rfl (pure_pick_t rfl rfl h10 rfl) ?_
  refine dl_pure rfl rfl rfl (pure_move rfl rfl) ?_
  refine dl_skip_g rfl rfl rfl rfl rfl ?_
  refine dpk 108 [(0,_),(3,_),(4,_),(71,_),(72,_)] [(4,_)] rfl rfl rfl ?_
  refine dl_skip_g rfl rfl rfl rfl rfl ?_
  refine dl_skip_g rfl rfl rfl rfl rfl ?_
  refine dl_pure rfl rfl rfl (pure_pick_t rfl rfl rfl rfl) ?_
  refine dl_pure rfl rfl rfl (pure_move rfl rfl) ?_
  refine dl_skip_g rfl rfl rfl rfl rfl ?_
  refine dl_skip_g rfl rfl rfl rfl rfl ?_
  refine dl_skip_g rfl rfl rfl rfl rfl ?_
  refine dl_pure rfl rfl rfl (pure_pick_t rfl rfl rfl rfl) ?_
  refine dl_nil ?_
  refine xD tb hM0 0 [0,3,4,80] [4] rfl ?_
  refine cx ?_; rotate_left
  have h10' := h10; try simp only [dq] at h10'
  refine dl_pure_g rfl rfl h10 rfl rfl (pure_field_box rfl fd83_3 rfl rfl) ?_
  refine dl_pure_g rfl rfl h10 rfl rfl (pure_load_box rfl ag3 rfl rfl rfl) ?_
  refine dl_pure_g rfl rfl h10 rfl rfl (pure_gtr rfl rfl rfl) ?_
  refine dl_pure rfl rfl rfl (pure_pick_f rfl rfl h10 rfl) ?_
  refine dl_pure rfl rfl rfl (pure_move rfl rfl) ?_
  refine dl_guard rfl (fun h11 => ?_) (fun h11 => ?_)
  have h11' := h11; try simp only [dq] at h11'
  refine dl_skip_g rfl rfl h11 rfl rfl ?_
  refine dpk 108 [(0,_),(3,_),(4,_),(71,_),(72,_)] [(4,_)] rfl rfl rfl ?_
  refine dl_skip_g rfl rfl h11 rfl rfl ?_
  refine dl_skip_g rfl rfl h11 rfl rfl ?_
  refine dl_pure rfl rfl rfl (pure_pick_t rfl rfl h11 rfl) ?_
  refine dl_pure rfl rfl rfl (pure_move rfl rfl) ?_
  refine dl_skip_g rfl rfl rfl rfl rfl ?_
  refine dl_skip_g rfl rfl rfl rfl rfl ?_
  refine dl_skip_g rfl rfl rfl rfl rfl ?_
  refine dl_pure rfl rfl rfl (pure_pick_t rfl rfl rfl rfl) ?_
  refine dl_nil ?_
  refine xD tb hM0 0 [0,3,4,80] [4] rfl ?_
  refine cx ?_; rotate_left
  have h11' := h11; try simp only [dq] at h11'
  refine dl_pure_g rfl rfl h11 rfl rfl (pure_field_box rfl fd83_4 rfl rfl) ?_
  refine dpk 108 [(0,_),(3,_),(4,_),(71,_),(72,_)] [(4,_)] rfl rfl rfl ?_
  refine dl_pure_g rfl rfl h11 rfl rfl (pure_load_box rfl ag3 rfl rfl rfl) ?_
  refine dl_pure_g rfl rfl h11 rfl rfl (pure_lss rfl rfl rfl) ?_
  refine dl_pure rfl rfl rfl (pure_pick_f rfl rfl h11 rfl) ?_
  refine dl_pure rfl rfl rfl (pure_move rfl rfl) ?_
  refine dl_guard rfl (fun h12 => ?_) (fun h12 => ?_)
  have h12' := h12; try simp only [dq] at h12'
  refine dl_skip_g rfl rfl h12 rfl rfl ?_
  refine dl_skip_g rfl rfl h12 rfl rfl ?_
  refine dl_skip_g rfl rfl h12 rfl rfl ?_
  refine dl_pure rfl rfl rfl (pure_pick_t rfl rfl h12 rfl) ?_
  refine dl_nil ?_
  refine xD tb hM0 0 [0,3,4,80] [4] rfl ?_
  refine cx ?_; rotate_left
  have h12' := h12; try simp only [dq] at h12'
  refine dl_pure_g rfl rfl h12 rfl rfl (pure_field_box rfl fd83_4 rfl rfl) ?_
  refine dl_pure_g rfl rfl h12 rfl rfl (pure_load_box rfl ag3 rfl rfl rfl) ?_
  refine dl_pure_g rfl rfl h12 rfl rfl (pure_gtr rfl rfl rfl) ?_
  refine dl_pure rfl rfl rfl (pure_pick_f rfl rfl h12 rfl) ?_
  refine dl_nil ?_
  refine xD tb hM0 0 [0,3,4,80] [4] rfl ?_
  refine cx ?_
  refine ⟨_, fun hz q => ?_, fun hz => ?_, rfl⟩
  · obtain ⟨q1, q2, q3, q4, q5, q6, q7, q8, q9, q10⟩ := q
    simp only [decide_eq_true_eq] at hz; omega
  · simp only [decide_eq_false_iff_not] at hz; exact ⟨by simp_all, by omega, by omega, by simp_all, by omega, by omega, by omega, by omega, by omega, by omega⟩
  rintro zs ⟨z, hC8_0, hC8_1, rfl⟩
  refine spC 80 rfl ?_ ?_ <;> intro h13 <;> try simp only [dq] at h13
  refine xA tb hM0 13 [] [] rfl ?_
  refine end_ret rfl ?_; rotate_left
  refine xA tb hM0 4 [0,3,4] [4] rfl ?_
  refine ct (fun zs => ∃ z : Bool, (z = true → ¬ ok2P (a.getD i default) i) ∧ (z = false → ok2P (a.getD i default) i) ∧ zs = ⟨108, [(0, .v .mx (letters a)), (3, .v .pl (int i)), (4, .pbox 4 0), (94, .v .pl (bool z))], [(4, .box 83 (lcells .mx (a.getD i default)))]⟩) ?_ ?_
  refine xA tb hM0 6 [0,3,4,85] [4] rfl ?_
  refine spO 85 rfl ?_ ?_ <;> intro h14' <;> try simp only [dq] at h14'
  refine xA tb hM0 4 [0,3,4,85,89] [4] rfl ?_
  refine spO 89 rfl ?_ ?_ <;> intro h15' <;> try simp only [dq] at h15'
  refine xA tb hM0 6 [0,3,4,94] [4] rfl ?_
  refine cx ?_
  refine ⟨true, fun _ q => ?_, fun hz => (by cases hz), rfl⟩
  have q1 := q (by omega); omega
  refine xA tb hM0 6 [0,3,4,94] [4] rfl ?_
  refine cx ?_
  refine ⟨_, fun hz q => ?_, fun hz => ?_, rfl⟩
  · have q1 := q (by omega); simp only [decide_eq_true_eq, Bool.not_eq_true', decide_eq_false_iff_not] at hz; omega
  · simp only [decide_eq_false_iff_not, Bool.not_eq_false', decide_eq_true_eq] at hz; intro _; omega
  refine xA tb hM0 10 [0,3,4,94] [4] rfl ?_
  refine cx ?_
  refine ⟨false, fun hz => (by cases hz), fun _ q => ?_, rfl⟩
  omega
  rintro zs ⟨z2, hC10_0, hC10_1, rfl⟩
  refine spC 94 rfl ?_ ?_ <;> intro h16 <;> try simp only [dq] at h16
  refine xA tb hM0 13 [] [] rfl ?_
  refine end_ret rfl ?_; rotate_left
  refine xA tb hM0 9 [0,3,4,5] [4] rfl ?_
  refine lp (fun zm zs => ∃ k : Nat, zm = i - k ∧ (k ≤ i) ∧ (∀ j, j < k → (a.getD j default).text ≠ (a.getD i default).text) ∧ zs = ⟨108, [(0, .v .mx (letters a)), (3, .v .pl (int i)), (4, .pbox 4 0), (5, .v .pl (int k))], [(4, .box 83 (lcells .mx (a.getD i default)))]⟩) ?_ ?_
  exact ⟨_, 0, rfl, Nat.zero_le _, fun j hj => absurd hj (by omega), rfl⟩
  rintro zm zs ⟨k, rfl, hL2_0, hL2_1, rfl⟩
  refine xA tb hM0 8 [0,3,4,5,97] [4] rfl ?_
  refine spC 97 rfl ?_ ?_ <;> intro h17 <;> try simp only [dq] at h17
  refine xA tb hM0 6 [0,3,4,5] [4] rfl ?_
  refine code_draw mixed (by kernel_rfl) _ rfl ?_
  refine dl_pure rfl rfl rfl (pure_move rfl rfl) ?_
  refine dl_pure rfl rfl rfl (pure_move rfl rfl) ?_
  refine dl_pure rfl rfl rfl (pure_ix rfl Tryz.underlying39 sz83 rfl rfl (by omega) (fun _ => rfl)) ?_
  refine dl_pure rfl rfl rfl (pure_field rfl fd83_0 rfl) ?_
  refine dl_pure rfl rfl rfl (pure_load rfl ag9 rfl rfl) ?_
  refine dl_pure rfl rfl rfl (pure_field_box rfl fd83_0 rfl rfl) ?_
  refine dl_pure rfl rfl rfl (pure_load_box rfl ag9 rfl rfl rfl) ?_
  refine dl_pure rfl rfl rfl (pure_seql rfl rfl rfl) ?_
  refine dl_nil ?_
  refine xD tb hM0 1 [0,3,4,5,107] [4] rfl ?_
  refine spC 107 rfl ?_ ?_ <;> intro h18 <;> try simp only [dq] at h18
  refine xA tb hM0 16 [] [] rfl ?_
  refine end_ret rfl ?_; rotate_left
  refine xA tb hM0 6 [0,3,4,98] [4] rfl ?_
  refine oP rfl (pure_addi rfl rfl rfl (by omega)) ?_
  refine xA tb hM0 2 [0,3,4,5] [4] rfl ?_
  refine nx ?_
  exact ⟨_, ⟨k + 1, rfl, by omega, lt_step hL2_1 (fun e => by simp_all), rfl⟩, by omega⟩
  refine xA tb hM0 9 [0,18] [] rfl ?_
  refine oP rfl (pure_addi rfl rfl rfl (by omega)) ?_
  refine xA tb hM0 2 [0,3] [] rfl ?_
  refine nx ?_
  exact ⟨_, ⟨i + 1, rfl, by omega, okP_step (by omega) hL1_1 (hC8_1 (by assumption)) (hC10_1 (by assumption)) hL2_1, rfl⟩, by omega⟩
  refine xA tb hM0 12 [] [] rfl ?_
  refine end_ret rfl ?_; rotate_left
  all_goals first
   | (
     first | (rw [validA_size (by omega)]; done) | (rw [validA_bad1 (i := i) (by omega) (hC8_0 (by assumption))]; done) | (rw [validA_bad2 (i := i) (by omega) (hC10_0 (by assumption))]; done) | (rw [validA_bad3 (i := i) (k := k) (by omega) (by omega) (by simp_all)]; done) | (rw [validA_good (n := i) (by omega) (by omega) hL1_1]; done); done)
   | (
     refine ⟨true, fun _ q => ?_, fun hz => (by cases hz), rfl⟩
     obtain ⟨q1, q2, q3, q4, q5, q6, q7, q8, q9, q10⟩ := q
     first | omega | simp_all; done)
end Go.Proofs.YtgdehkimfmfofaaGreat

