/-
  Contracts: letters that are valid, by the reference.
-/
import Derived.Test.YtgdehkimfmfofaaGreatJ33
import Derived.Test.YtgdehkimfmfofaaGreatJ35
import Derived.Test.YtgdehkimfmfofaaGreatJ21
import Derived.Test.YtgdehkimfmfofaaGreatJ23
import Derived.Test.YtgdehkimfmfofaaGreatJ18
set_option linter.unusedVariables false
set_option linter.unusedSimpArgs false
namespace Go.Proofs.YtgdehkimfmfofaaGreat
open Go.Am Go.Wb Go.Wc
set_option linter.unusedVariables false
set_option linter.unusedSimpArgs false
theorem fn127 : Fn1 Tryz.prog 127 Tryz.f127.ntmps 4 (Tryz.f127.body.getD .skip) := ⟨Tryz.f127, Tryz.func127, rfl, rfl, rfl, by kernel_rfl⟩
set_option maxRecDepth 100000 in
set_option maxHeartbeats 1000000 in
theorem rbegins_call {s t : List UInt8} : CallF Tryz.prog 127 [sbytes s, sbytes t] (.p (bool (preB s t))) := by
  refine callF_of_code fn127 (Nat.le_of_ble_eq_true rfl) fun w0 M0 hM0 => ?_
  refine xC tb hM0 8 [0,1,5] [] rfl ?_
  refine oP rfl (pure_slen rfl Tryz.underlying9 rfl) ?_
  refine xA tb hM0 1 [0,1,6,7] [] rfl ?_
  refine oP rfl (pure_slen rfl Tryz.underlying9 rfl) ?_
  refine xA tb hM0 2 [0,1,10] [] rfl ?_
  refine spO 10 rfl ?_ ?_ <;> intro h1' <;> try simp only [dq] at h1'
  refine xA tb hM0 2 [1,10,11,12] [] rfl ?_
  refine oP rfl (pure_slen rfl Tryz.underlying9 rfl) ?_
  refine oP rfl (pure_sslice_h rfl Tryz.underlying9 rfl rfl (by omega)) ?_
  refine xA tb hM0 1 [10,14,15] [] rfl ?_
  refine oP rfl (pure_seql rfl rfl rfl) ?_
  refine xA tb hM0 5 [] [] rfl ?_
  refine end_ret rfl ?_; rotate_left
  refine xA tb hM0 11 [] [] rfl ?_
  refine end_ret rfl ?_; rotate_left
  all_goals
    first | (rw [preB_f (by omega)]; first | done | rfl) | (rw [preB_t (by omega)]; first | done | rfl)
theorem fn106 : Fn1 Tryz.prog 106 Tryz.f106.ntmps 4 (Tryz.f106.body.getD .skip) := ⟨Tryz.f106, Tryz.func106, rfl, rfl, rfl, by kernel_rfl⟩
set_option maxRecDepth 100000 in
set_option maxHeartbeats 1000000 in
theorem rletter_call {a : List Letter} {r : Rx} : CallF Tryz.prog 106 [rx r, letters a] (.p (bool (oneB a r))) := by
  rw [rx_eq r]
  refine callF_of_code fn106 (Nat.le_of_ble_eq_true rfl) fun w0 M0 hM0 => ?_
  refine xC tb hM0 2 [0,1] [] rfl ?_
  refine oP rfl (pure_box rfl rfl rfl hM0) ?_
  refine xA tb hM0 9 [1,2,8] [] rfl ?_
  refine spO 8 rfl ?_ ?_ <;> intro h1' <;> try simp only [dq] at h1'
  refine xA tb hM0 2 [1,2,8,10] [] rfl ?_
  refine oP rfl (pure_lenm rfl Tryz.underlying22 rfl) ?_
  refine xA tb hM0 3 [1,2,14] [] rfl ?_
  refine spO 14 rfl ?_ ?_ <;> intro h2' <;> try simp only [dq] at h2'
  refine xA tb hM0 2 [1,14,16] [] rfl ?_
  refine oP rfl (pure_ix rfl Tryz.underlying22 sz3 rfl rfl (by omega) (fun _ => rfl)) ?_
  refine xA tb hM0 2 [14,18,19] [] rfl ?_
  refine oP rfl (pure_lenm rfl Tryz.underlying39 rfl) ?_
  refine xA tb hM0 6 [] [] rfl ?_
  refine end_ret rfl ?_; rotate_left
  refine xA tb hM0 12 [] [] rfl ?_
  refine end_ret rfl ?_; rotate_left
  refine xA tb hM0 18 [] [] rfl ?_
  refine end_ret rfl ?_; rotate_left
  all_goals
    try simp only [Int.toNat_zero] at *
    unfold oneB
    first | (rw [decide_eq_false (by omega), Bool.false_and]; done) | (rw [decide_eq_true (by omega), decide_eq_false (by omega), Bool.false_and, Bool.and_false]; done) | (rw [decide_eq_true (show r.kind = 2 by omega), decide_eq_true (show r.syms.length = 1 by omega), Bool.true_and, Bool.true_and]; first | done | rfl)
theorem fn107 : Fn1 Tryz.prog 107 Tryz.f107.ntmps 4 (Tryz.f107.body.getD .skip) := ⟨Tryz.f107, Tryz.func107, rfl, rfl, rfl, by kernel_rfl⟩
set_option maxRecDepth 100000 in
set_option maxHeartbeats 1000000 in
theorem rlonger_call {a : List Letter} {n : Int} (ha : a.length ≤ 1099511627776) (hn : 0 ≤ n ∧ n < a.length) : CallF Tryz.prog 107 [int n, letters a] (.p (bool (lngB a n))) := by
  refine callF_of_code fn107 (Nat.le_of_ble_eq_true rfl) fun w0 M0 hM0 => ?_
  refine xC tb hM0 12 [0,1,5] [] rfl ?_
  refine lp (fun zm zs => ∃ i : Nat, zm = a.length - i ∧ (i ≤ a.length) ∧ (∀ j : Nat, j < i → (j : Int) = n ∨ preB (a.getD j default).text (a.getD n.toNat default).text = false) ∧ zs = ⟨28, [(0, .v .mx (int n)), (1, .v .mx (letters a)), (5, .v .pl (int i))], []⟩) ?_ ?_
  exact ⟨_, 0, rfl, Nat.zero_le _, fun j hj => absurd hj (by omega), rfl⟩
  rintro zm zs ⟨i, rfl, hL1_0, hL1_1, rfl⟩
  refine xA tb hM0 5 [0,1,5,6,7] [] rfl ?_
  refine oP rfl (pure_lenm rfl Tryz.underlying39 rfl) ?_
  refine xA tb hM0 3 [0,1,5,9] [] rfl ?_
  refine spC 9 rfl ?_ ?_ <;> intro h1 <;> try simp only [dq] at h1
  refine xA tb hM0 6 [0,1,5] [] rfl ?_
  refine code_draw mixed (by kernel_rfl) _ rfl ?_
  refine dl_pure rfl rfl rfl (pure_move rfl rfl) ?_
  refine dl_pure rfl rfl rfl (pure_move rfl rfl) ?_
  refine dl_pure rfl rfl rfl (pure_neq rfl rfl rfl) ?_
  refine dl_pure rfl rfl rfl (pure_move rfl rfl) ?_
  refine dl_guard rfl (fun h2 => ?_) (fun h2 => ?_)
  have h2' := h2; try simp only [dq] at h2'
  refine dl_pure_g rfl rfl h2 rfl rfl (pure_move rfl rfl) ?_
  refine dl_pure_g rfl rfl h2 rfl rfl (pure_move rfl rfl) ?_
  refine dl_pure_g rfl rfl h2 rfl rfl (pure_ix rfl Tryz.underlying39 sz83 rfl rfl (by omega) (fun _ => rfl)) ?_
  refine dpk 28 [(0,_),(1,_),(5,_),(15,_),(18,_)] [] rfl rfl rfl ?_
  refine dl_pure_g rfl rfl h2 rfl rfl (pure_field rfl fd83_0 rfl) ?_
  refine dl_pure_g rfl rfl h2 rfl rfl (pure_load rfl ag9 rfl rfl) ?_
  refine dl_pure_g rfl rfl h2 rfl rfl (pure_move rfl rfl) ?_
  refine dl_pure_g rfl rfl h2 rfl rfl (pure_move rfl rfl) ?_
  refine dl_pure_g rfl rfl h2 rfl rfl (pure_ix rfl Tryz.underlying39 sz83 rfl rfl (by omega) (fun _ => rfl)) ?_
  refine dl_pure_g rfl rfl h2 rfl rfl (pure_field rfl fd83_0 rfl) ?_
  refine dl_pure_g rfl rfl h2 rfl rfl (pure_load rfl ag9 rfl rfl) ?_
  refine dl_pure_g rfl rfl h2 rfl rfl (pure_call rfl rfl rfl (rbegins_call) hM0) ?_
  refine dl_pure rfl rfl rfl (pure_pick_t rfl rfl h2 rfl) ?_
  refine dl_nil ?_
  refine xD tb hM0 1 [0,1,5,27] [] rfl ?_
  refine spC 27 rfl ?_ ?_ <;> intro h3 <;> try simp only [dq] at h3
  refine xA tb hM0 12 [] [] rfl ?_
  refine end_ret rfl ?_; rotate_left
  refine xA tb hM0 6 [0,1,10] [] rfl ?_
  refine oP rfl (pure_addi rfl rfl rfl (by omega)) ?_
  refine xA tb hM0 2 [0,1,5] [] rfl ?_
  refine nx ?_; rotate_left
  have h2' := h2; try simp only [dq] at h2'
  refine dl_skip_g rfl rfl h2 rfl rfl ?_
  refine dl_skip_g rfl rfl h2 rfl rfl ?_
  refine dl_skip_g rfl rfl h2 rfl rfl ?_
  refine dpk 28 [(0,_),(1,_),(5,_),(15,_),(18,_)] [] rfl rfl rfl ?_
  refine dl_skip_g rfl rfl h2 rfl rfl ?_
  refine dl_skip_g rfl rfl h2 rfl rfl ?_
  refine dl_skip_g rfl rfl h2 rfl rfl ?_
  refine dl_skip_g rfl rfl h2 rfl rfl ?_
  refine dl_skip_g rfl rfl h2 rfl rfl ?_
  refine dl_skip_g rfl rfl h2 rfl rfl ?_
  refine dl_skip_g rfl rfl h2 rfl rfl ?_
  refine dl_skip_g rfl rfl h2 rfl rfl ?_
  refine dl_pure rfl rfl rfl (pure_pick_f rfl rfl h2 rfl) ?_
  refine dl_nil ?_
  refine xD tb hM0 7 [0,1,10] [] rfl ?_
  refine oP rfl (pure_addi rfl rfl rfl (by omega)) ?_
  refine xA tb hM0 2 [0,1,5] [] rfl ?_
  refine nx ?_; rotate_left
  refine xA tb hM0 12 [] [] rfl ?_
  refine end_ret rfl ?_; rotate_left
  all_goals first
   | (
     first | (rw [lngB_hit (i := i) (by omega) (by omega) (by assumption)]; done) | (rw [lngB_no (i := i) (by omega) hL1_1]; done); done)
   | (
     exact ⟨_, ⟨i + 1, rfl, by omega, all_step hL1_1 (by first | exact .inl (by omega) | exact .inr (by assumption)), rfl⟩, by omega⟩; done)
theorem dot_ix {a : List Letter} {s : List Int} (h : s.getD ((s.length : Int) - 1).toNat default = (a.length : Int) - 1) (hl : s.length = a.length) : s.getD (a.length - 1) default = (a.length : Int) - 1 := by
  rwa [show ((s.length : Int) - 1).toNat = a.length - 1 by omega] at h
theorem dot_no {a : List Letter} {s : List Int} (h : ¬ s.getD ((s.length : Int) - 1).toNat default = (a.length : Int) - 1) : ¬ (s.length = a.length ∧ 1 < a.length ∧ s.getD (a.length - 1) default = (a.length : Int) - 1) := fun q => h (by rw [show ((s.length : Int) - 1).toNat = a.length - 1 by omega]; exact q.2.2)
theorem fn105 : Fn1 Tryz.prog 105 Tryz.f105.ntmps 4 (Tryz.f105.body.getD .skip) := ⟨Tryz.f105, Tryz.func105, rfl, rfl, rfl, by kernel_rfl⟩
set_option maxRecDepth 100000 in
set_option maxHeartbeats 2000000 in
theorem rsymbols_call {a : List Letter} {s : List Int} (ha : a.length ≤ 1099511627776) (hT : ∀ x ∈ a, x.text.length ≤ 4) (hl : s.length ≤ 1099511627776) (h0 : 0 < s.length) (hs : ∀ z ∈ s, 0 ≤ z ∧ (z < a.length ∨ z = 63 ∨ z = 62)) :
    CallW Tryz.prog 105 [ints s, letters a] (.p (sbytes (setT a s))) := by
  have hsy := fun i (h : i < s.length) => hs _ (kid_memI h)
  have hlt := fun n => letter_len hT n
  have hsl := fun i => symsT_len hT s i
  refine callW_of_codeS fn105 (Nat.le_of_ble_eq_true rfl) fun w0 M0 hM0 hdr => ?_
  refine xC tb hM0 9 [0,1,8] [] rfl ?_
  refine oP rfl (pure_lenm rfl Tryz.underlying22 rfl) ?_
  refine xA tb hM0 2 [0,1,11] [] rfl ?_
  refine spO 11 rfl ?_ ?_ <;> intro h1' <;> try simp only [dq] at h1'
  refine xA tb hM0 1 [0,1,11,12] [] rfl ?_
  refine oP rfl (pure_lenm rfl Tryz.underlying22 rfl) ?_
  refine xA tb hM0 1 [0,1,11,13,14] [] rfl ?_
  refine oP rfl (pure_lenm rfl Tryz.underlying39 rfl) ?_
  refine xA tb hM0 3 [0,1,18] [] rfl ?_
  refine spO 18 rfl ?_ ?_ <;> intro h2' <;> try simp only [dq] at h2'
  refine xA tb hM0 2 [0,1,18,19,20] [] rfl ?_
  refine oP rfl (pure_lenm rfl Tryz.underlying22 rfl) ?_
  refine oP rfl (pure_subi rfl rfl rfl (by omega)) ?_
  refine xA tb hM0 0 [0,1,18,19,22] [] rfl ?_
  refine oP rfl (pure_ix rfl Tryz.underlying22 sz3 rfl rfl (by omega) (fun _ => rfl)) ?_
  refine xA tb hM0 2 [0,1,18,24,25] [] rfl ?_
  refine oP rfl (pure_lenm rfl Tryz.underlying39 rfl) ?_
  refine oP rfl (pure_subi rfl rfl rfl (by omega)) ?_
  refine xA tb hM0 4 [0,1,29] [] rfl ?_
  refine spC 29 rfl ?_ ?_ <;> intro h3 <;> try simp only [dq] at h3
  refine xA tb hM0 8 [] [] rfl ?_
  refine end_ret rfl ?_; rotate_left
  refine xA tb hM0 15 [0,1,5,6] [] rfl ?_
  refine lp (fun zm zs => ∃ i : Nat, zm = s.length - i ∧ (i ≤ s.length) ∧ zs = ⟨68, [(0, .v .pl (ints s)), (1, .v .pl (letters a)), (5, .v .pl (sbytes (symsT a s i))), (6, .v .pl (int i))], []⟩) ?_ ?_
  exact ⟨_, 0, rfl, Nat.zero_le _, rfl⟩
  rintro zm zs ⟨i, rfl, hL1_0, rfl⟩
  refine xA tb hM0 5 [0,1,5,6,30,31] [] rfl ?_
  refine oP rfl (pure_lenm rfl Tryz.underlying22 rfl) ?_
  refine xA tb hM0 3 [0,1,5,6,33] [] rfl ?_
  refine spC 33 rfl ?_ ?_ <;> intro h4 <;> try simp only [dq] at h4
  refine xA tb hM0 10 [0,1,5,6,7] [] rfl ?_
  refine ct (fun zs => zs = ⟨68, [(0, .v .pl (ints s)), (1, .v .pl (letters a)), (5, .v .pl (sbytes (symsT a s i))), (6, .v .pl (int i)), (7, .v .pl (sbytes (letterT a (s.getD i default))))], []⟩) ?_ ?_
  refine xA tb hM0 4 [0,1,5,6,7,36,37] [] rfl ?_
  refine oP rfl (pure_ix rfl Tryz.underlying22 sz3 rfl rfl (by omega) (fun _ => rfl)) ?_
  refine xA tb hM0 4 [0,1,5,6,7,40] [] rfl ?_
  refine spC 40 rfl ?_ ?_ <;> intro h5 <;> try simp only [dq] at h5
  refine xA tb hM0 4 [0,1,5,6,7] [] rfl ?_
  refine cx ?_; rotate_left
  refine xA tb hM0 5 [0,1,5,6,7,41,42] [] rfl ?_
  refine oP rfl (pure_ix rfl Tryz.underlying22 sz3 rfl rfl (by omega) (fun _ => rfl)) ?_
  refine xA tb hM0 4 [0,1,5,6,7,45] [] rfl ?_
  refine spC 45 rfl ?_ ?_ <;> intro h6 <;> try simp only [dq] at h6
  refine xA tb hM0 5 [0,1,5,6,46,47,48] [] rfl ?_
  refine oP rfl (pure_ix rfl Tryz.underlying22 sz3 rfl rfl (by omega) (fun _ => rfl)) ?_
  refine xA tb hM0 1 [0,1,5,6,46,50] [] rfl ?_
  refine oP rfl (pure_ix rfl Tryz.underlying39 sz83 rfl rfl (by have := hsy i (by omega); omega) (fun _ => rfl)) ?_
  refine xA tb hM0 4 [0,1,5,6,7] [] rfl ?_
  refine cx ?_; rotate_left
  refine xA tb hM0 2 [0,1,5,6,7] [] rfl ?_
  refine cx ?_; rotate_left
  rintro zs ⟨rfl⟩
  refine xA tb hM0 7 [0,1,5,6,7,55] [] rfl ?_
  refine spC 55 rfl ?_ ?_ <;> intro h7 <;> try simp only [dq] at h7
  refine xA tb hM0 3 [0,1,6,7,56] [] rfl ?_
  refine oP rfl (pure_sadd rfl rfl rfl (by have := hsl i; simp only [List.length_append, List.length_cons, List.length_nil]; omega)) ?_
  refine xA tb hM0 6 [0,1,6,58,59] [] rfl ?_
  refine oP rfl (pure_sadd rfl rfl rfl (by have := hsl i; have := hlt (s.getD i default); (try simp only [List.length_append, List.length_cons, List.length_nil]); omega)) ?_
  refine xA tb hM0 6 [0,1,5,34] [] rfl ?_
  refine oP rfl (pure_addi rfl rfl rfl (by omega)) ?_
  refine xA tb hM0 2 [0,1,5,6] [] rfl ?_
  refine nx ?_; rotate_left
  refine xA tb hM0 6 [0,1,6,58,59] [] rfl ?_
  refine oP rfl (pure_sadd rfl rfl rfl (by have := hsl i; have := hlt (s.getD i default); (try simp only [List.length_append, List.length_cons, List.length_nil]); omega)) ?_
  refine xA tb hM0 6 [0,1,5,34] [] rfl ?_
  refine oP rfl (pure_addi rfl rfl rfl (by omega)) ?_
  refine xA tb hM0 2 [0,1,5,6] [] rfl ?_
  refine nx ?_; rotate_left
  refine xA tb hM0 10 [5,61] [] rfl ?_
  refine oP rfl (pure_lenm rfl Tryz.underlying22 rfl) ?_
  refine xA tb hM0 3 [5,63] [] rfl ?_
  refine spC 63 rfl ?_ ?_ <;> intro h8 <;> try simp only [dq] at h8
  refine xA tb hM0 3 [64] [] rfl ?_
  refine oP rfl (pure_sadd rfl rfl rfl (by have := hsl i; simp only [List.length_append, List.length_cons, List.length_nil]; omega)) ?_
  refine oP rfl (pure_sadd rfl rfl rfl (by have := hsl i; simp only [List.length_append, List.length_cons, List.length_nil]; omega)) ?_
  refine xA tb hM0 10 [] [] rfl ?_
  refine end_ret rfl ?_; rotate_left
  refine xA tb hM0 10 [] [] rfl ?_
  refine end_ret rfl ?_; rotate_left
  refine xA tb hM0 28 [0,1,5,6] [] rfl ?_
  refine lp (fun zm zs => ∃ i : Nat, zm = s.length - i ∧ (i ≤ s.length) ∧ zs = ⟨68, [(0, .v .pl (ints s)), (1, .v .pl (letters a)), (5, .v .pl (sbytes (symsT a s i))), (6, .v .pl (int i))], []⟩) ?_ ?_
  exact ⟨_, 0, rfl, Nat.zero_le _, rfl⟩
  rintro zm zs ⟨i, rfl, hL1_0, rfl⟩
  refine xA tb hM0 5 [0,1,5,6,30,31] [] rfl ?_
  refine oP rfl (pure_lenm rfl Tryz.underlying22 rfl) ?_
  refine xA tb hM0 3 [0,1,5,6,33] [] rfl ?_
  refine spC 33 rfl ?_ ?_ <;> intro h9 <;> try simp only [dq] at h9
  refine xA tb hM0 10 [0,1,5,6,7] [] rfl ?_
  refine ct (fun zs => zs = ⟨68, [(0, .v .pl (ints s)), (1, .v .pl (letters a)), (5, .v .pl (sbytes (symsT a s i))), (6, .v .pl (int i)), (7, .v .pl (sbytes (letterT a (s.getD i default))))], []⟩) ?_ ?_
  refine xA tb hM0 4 [0,1,5,6,7,36,37] [] rfl ?_
  refine oP rfl (pure_ix rfl Tryz.underlying22 sz3 rfl rfl (by omega) (fun _ => rfl)) ?_
  refine xA tb hM0 4 [0,1,5,6,7,40] [] rfl ?_
  refine spC 40 rfl ?_ ?_ <;> intro h10 <;> try simp only [dq] at h10
  refine xA tb hM0 4 [0,1,5,6,7] [] rfl ?_
  refine cx ?_; rotate_left
  refine xA tb hM0 5 [0,1,5,6,7,41,42] [] rfl ?_
  refine oP rfl (pure_ix rfl Tryz.underlying22 sz3 rfl rfl (by omega) (fun _ => rfl)) ?_
  refine xA tb hM0 4 [0,1,5,6,7,45] [] rfl ?_
  refine spC 45 rfl ?_ ?_ <;> intro h11 <;> try simp only [dq] at h11
  refine xA tb hM0 5 [0,1,5,6,46,47,48] [] rfl ?_
  refine oP rfl (pure_ix rfl Tryz.underlying22 sz3 rfl rfl (by omega) (fun _ => rfl)) ?_
  refine xA tb hM0 1 [0,1,5,6,46,50] [] rfl ?_
  refine oP rfl (pure_ix rfl Tryz.underlying39 sz83 rfl rfl (by have := hsy i (by omega); omega) (fun _ => rfl)) ?_
  refine xA tb hM0 4 [0,1,5,6,7] [] rfl ?_
  refine cx ?_; rotate_left
  refine xA tb hM0 2 [0,1,5,6,7] [] rfl ?_
  refine cx ?_; rotate_left
  rintro zs ⟨rfl⟩
  refine xA tb hM0 7 [0,1,5,6,7,55] [] rfl ?_
  refine spC 55 rfl ?_ ?_ <;> intro h12 <;> try simp only [dq] at h12
  refine xA tb hM0 3 [0,1,6,7,56] [] rfl ?_
  refine oP rfl (pure_sadd rfl rfl rfl (by have := hsl i; simp only [List.length_append, List.length_cons, List.length_nil]; omega)) ?_
  refine xA tb hM0 6 [0,1,6,58,59] [] rfl ?_
  refine oP rfl (pure_sadd rfl rfl rfl (by have := hsl i; have := hlt (s.getD i default); (try simp only [List.length_append, List.length_cons, List.length_nil]); omega)) ?_
  refine xA tb hM0 6 [0,1,5,34] [] rfl ?_
  refine oP rfl (pure_addi rfl rfl rfl (by omega)) ?_
  refine xA tb hM0 2 [0,1,5,6] [] rfl ?_
  refine nx ?_; rotate_left
  refine xA tb hM0 6 [0,1,6,58,59] [] rfl ?_
  refine oP rfl (pure_sadd rfl rfl rfl (by have := hsl i; have := hlt (s.getD i default); (try simp only [List.length_append, List.length_cons, List.length_nil]); omega)) ?_
  refine xA tb hM0 6 [0,1,5,34] [] rfl ?_
  refine oP rfl (pure_addi rfl rfl rfl (by omega)) ?_
  refine xA tb hM0 2 [0,1,5,6] [] rfl ?_
  refine nx ?_; rotate_left
  refine xA tb hM0 10 [5,61] [] rfl ?_
  refine oP rfl (pure_lenm rfl Tryz.underlying22 rfl) ?_
  refine xA tb hM0 3 [5,63] [] rfl ?_
  refine spC 63 rfl ?_ ?_ <;> intro h13 <;> try simp only [dq] at h13
  refine xA tb hM0 3 [64] [] rfl ?_
  refine oP rfl (pure_sadd rfl rfl rfl (by have := hsl i; simp only [List.length_append, List.length_cons, List.length_nil]; omega)) ?_
  refine oP rfl (pure_sadd rfl rfl rfl (by have := hsl i; simp only [List.length_append, List.length_cons, List.length_nil]; omega)) ?_
  refine xA tb hM0 10 [] [] rfl ?_
  refine end_ret rfl ?_; rotate_left
  refine xA tb hM0 10 [] [] rfl ?_
  refine end_ret rfl ?_; rotate_left
  refine xA tb hM0 35 [0,1,5,6] [] rfl ?_
  refine lp (fun zm zs => ∃ i : Nat, zm = s.length - i ∧ (i ≤ s.length) ∧ zs = ⟨68, [(0, .v .pl (ints s)), (1, .v .pl (letters a)), (5, .v .pl (sbytes (symsT a s i))), (6, .v .pl (int i))], []⟩) ?_ ?_
  exact ⟨_, 0, rfl, Nat.zero_le _, rfl⟩
  rintro zm zs ⟨i, rfl, hL1_0, rfl⟩
  refine xA tb hM0 5 [0,1,5,6,30,31] [] rfl ?_
  refine oP rfl (pure_lenm rfl Tryz.underlying22 rfl) ?_
  refine xA tb hM0 3 [0,1,5,6,33] [] rfl ?_
  refine spC 33 rfl ?_ ?_ <;> intro h14 <;> try simp only [dq] at h14
  refine xA tb hM0 10 [0,1,5,6,7] [] rfl ?_
  refine ct (fun zs => zs = ⟨68, [(0, .v .pl (ints s)), (1, .v .pl (letters a)), (5, .v .pl (sbytes (symsT a s i))), (6, .v .pl (int i)), (7, .v .pl (sbytes (letterT a (s.getD i default))))], []⟩) ?_ ?_
  refine xA tb hM0 4 [0,1,5,6,7,36,37] [] rfl ?_
  refine oP rfl (pure_ix rfl Tryz.underlying22 sz3 rfl rfl (by omega) (fun _ => rfl)) ?_
  refine xA tb hM0 4 [0,1,5,6,7,40] [] rfl ?_
  refine spC 40 rfl ?_ ?_ <;> intro h15 <;> try simp only [dq] at h15
  refine xA tb hM0 4 [0,1,5,6,7] [] rfl ?_
  refine cx ?_; rotate_left
  refine xA tb hM0 5 [0,1,5,6,7,41,42] [] rfl ?_
  refine oP rfl (pure_ix rfl Tryz.underlying22 sz3 rfl rfl (by omega) (fun _ => rfl)) ?_
  refine xA tb hM0 4 [0,1,5,6,7,45] [] rfl ?_
  refine spC 45 rfl ?_ ?_ <;> intro h16 <;> try simp only [dq] at h16
  refine xA tb hM0 5 [0,1,5,6,46,47,48] [] rfl ?_
  refine oP rfl (pure_ix rfl Tryz.underlying22 sz3 rfl rfl (by omega) (fun _ => rfl)) ?_
  refine xA tb hM0 1 [0,1,5,6,46,50] [] rfl ?_
  refine oP rfl (pure_ix rfl Tryz.underlying39 sz83 rfl rfl (by have := hsy i (by omega); omega) (fun _ => rfl)) ?_
  refine xA tb hM0 4 [0,1,5,6,7] [] rfl ?_
  refine cx ?_; rotate_left
  refine xA tb hM0 2 [0,1,5,6,7] [] rfl ?_
  refine cx ?_; rotate_left
  rintro zs ⟨rfl⟩
  refine xA tb hM0 7 [0,1,5,6,7,55] [] rfl ?_
  refine spC 55 rfl ?_ ?_ <;> intro h17 <;> try simp only [dq] at h17
  refine xA tb hM0 3 [0,1,6,7,56] [] rfl ?_
  refine oP rfl (pure_sadd rfl rfl rfl (by have := hsl i; simp only [List.length_append, List.length_cons, List.length_nil]; omega)) ?_
  refine xA tb hM0 6 [0,1,6,58,59] [] rfl ?_
  refine oP rfl (pure_sadd rfl rfl rfl (by have := hsl i; have := hlt (s.getD i default); (try simp only [List.length_append, List.length_cons, List.length_nil]); omega)) ?_
  refine xA tb hM0 6 [0,1,5,34] [] rfl ?_
  refine oP rfl (pure_addi rfl rfl rfl (by omega)) ?_
  refine xA tb hM0 2 [0,1,5,6] [] rfl ?_
  refine nx ?_; rotate_left
  refine xA tb hM0 6 [0,1,6,58,59] [] rfl ?_
  refine oP rfl (pure_sadd rfl rfl rfl (by have := hsl i; have := hlt (s.getD i default); (try simp only [List.length_append, List.length_cons, List.length_nil]); omega)) ?_
  refine xA tb hM0 6 [0,1,5,34] [] rfl ?_
  refine oP rfl (pure_addi rfl rfl rfl (by omega)) ?_
  refine xA tb hM0 2 [0,1,5,6] [] rfl ?_
  refine nx ?_; rotate_left
  refine xA tb hM0 10 [5,61] [] rfl ?_
  refine oP rfl (pure_lenm rfl Tryz.underlying22 rfl) ?_
  refine xA tb hM0 3 [5,63] [] rfl ?_
  refine spC 63 rfl ?_ ?_ <;> intro h18 <;> try simp only [dq] at h18
  refine xA tb hM0 3 [64] [] rfl ?_
  refine oP rfl (pure_sadd rfl rfl rfl (by have := hsl i; simp only [List.length_append, List.length_cons, List.length_nil]; omega)) ?_
  refine oP rfl (pure_sadd rfl rfl rfl (by have := hsl i; simp only [List.length_append, List.length_cons, List.length_nil]; omega)) ?_
  refine xA tb hM0 10 [] [] rfl ?_
  refine end_ret rfl ?_; rotate_left
  refine xA tb hM0 10 [] [] rfl ?_
  refine end_ret rfl ?_; rotate_left
  all_goals first
   | (
     first | (exfalso; omega) | (rw [setT_dot (a := a) (s := s) (by omega) (by omega) (dot_ix (by omega) (by omega))]; first | done | rfl) | (rw [symsT_all (by omega)]; first | (rw [setT_one (by omega) (by omega), sets_one (by omega)]; first | done | rfl) | (rw [setT_many (dot_no (by omega)) (by omega)]; first | done | rfl) | (rw [setT_many (fun q => by omega) (by omega)]; first | done | rfl)); done)
   | (
     unfold letterT; first | (rw [if_pos (by omega)]; first | done | rfl) | (rw [if_neg (by omega), if_pos (by omega)]; first | done | rfl) | (rw [if_neg (by omega), if_neg (by omega)]; first | done | rfl); done)
   | (
     exact ⟨_, ⟨i + 1, rfl, by omega, by rw [symsT_succ (by omega)]; first | (rw [if_pos (by omega)]; first | done | rfl) | (rw [if_neg (by omega)]; first | done | rfl)⟩, by omega⟩; done)
theorem fn68 : Fn1 Tryz.prog 68 Tryz.f68.ntmps 4 (Tryz.f68.body.getD .skip) := ⟨Tryz.f68, Tryz.func68, rfl, rfl, rfl, by kernel_rfl⟩
set_option maxRecDepth 100000 in
set_option maxHeartbeats 2000000 in
theorem rknown_call {a : List Letter} (ha : a.length ≤ 1099511627776) : ∀ (m : Nat) (r : Rx), r.size ≤ m → m ≤ 1099511627776 → CallF Tryz.prog 68 [rx r, letters a] (.p (bool (knownR a r))) := by
  intro m
  induction m with
  | zero => intro r hr; have := size_pos r; omega
  | succ m ih =>
  intro r hr hm
  have hk := kids_len r
  have hs := syms_len r
  rw [rx_eq r]
  refine callF_of_code fn68 (Nat.le_of_ble_eq_true rfl) fun w0 M0 hM0 => ?_
  refine xC tb hM0 2 [0,1] [] rfl ?_
  refine oP rfl (pure_box rfl rfl rfl hM0) ?_
  refine xA tb hM0 10 [1,2,5] [] rfl ?_
  refine lp (fun zm zs => ∃ i : Nat, zm = r.syms.length - i ∧ (i ≤ r.syms.length) ∧ (∀ j, j < i → symK a (r.syms.getD j default) = true) ∧ zs = ⟨53, [(1, .v .mx (letters a)), (2, .v .mx (rpc r)), (5, .v .pl (int i))], []⟩) ?_ ?_
  exact ⟨_, 0, rfl, Nat.zero_le _, fun j hj => absurd hj (by omega), rfl⟩
  rintro zm zs ⟨i, rfl, hL1_0, hL1_1, rfl⟩
  refine xA tb hM0 6 [1,2,5,7,9] [] rfl ?_
  refine oP rfl (pure_lenm rfl Tryz.underlying22 rfl) ?_
  refine xA tb hM0 3 [1,2,5,11] [] rfl ?_
  refine spC 11 rfl ?_ ?_ <;> intro h1 <;> try simp only [dq] at h1
  refine xA tb hM0 10 [1,2,5,15,16] [] rfl ?_
  refine oP rfl (pure_ix rfl Tryz.underlying22 sz3 rfl rfl (by omega) (fun _ => rfl)) ?_
  refine xA tb hM0 2 [1,2,5,18,19] [] rfl ?_
  refine oP rfl (pure_lenm rfl Tryz.underlying39 rfl) ?_
  refine xA tb hM0 2 [1,2,5,22] [] rfl ?_
  refine spO 22 rfl ?_ ?_ <;> intro h2' <;> try simp only [dq] at h2'
  refine xA tb hM0 3 [1,2,5,22,24,25] [] rfl ?_
  refine oP rfl (pure_ix rfl Tryz.underlying22 sz3 rfl rfl (by omega) (fun _ => rfl)) ?_
  refine xA tb hM0 4 [1,2,5,30] [] rfl ?_
  refine spO 30 rfl ?_ ?_ <;> intro h3' <;> try simp only [dq] at h3'
  refine xA tb hM0 3 [1,2,5,30,32,33] [] rfl ?_
  refine oP rfl (pure_ix rfl Tryz.underlying22 sz3 rfl rfl (by omega) (fun _ => rfl)) ?_
  refine xA tb hM0 5 [1,2,5,37] [] rfl ?_
  refine spC 37 rfl ?_ ?_ <;> intro h4 <;> try simp only [dq] at h4
  refine xA tb hM0 12 [] [] rfl ?_
  refine end_ret rfl ?_; rotate_left
  refine xA tb hM0 6 [1,2,12] [] rfl ?_
  refine oP rfl (pure_addi rfl rfl rfl (by omega)) ?_
  refine xA tb hM0 2 [1,2,5] [] rfl ?_
  refine nx ?_; rotate_left
  refine xA tb hM0 15 [1,2,12] [] rfl ?_
  refine oP rfl (pure_addi rfl rfl rfl (by omega)) ?_
  refine xA tb hM0 2 [1,2,5] [] rfl ?_
  refine nx ?_; rotate_left
  refine xA tb hM0 23 [1,2,12] [] rfl ?_
  refine oP rfl (pure_addi rfl rfl rfl (by omega)) ?_
  refine xA tb hM0 2 [1,2,5] [] rfl ?_
  refine nx ?_; rotate_left
  refine xA tb hM0 13 [1,2,6] [] rfl ?_
  refine lp (fun zm zs => ∃ j : Nat, zm = r.kids.length - j ∧ (j ≤ r.kids.length) ∧ (∀ k, k < j → knownR a (r.kids.getD k default) = true) ∧ zs = ⟨53, [(1, .v .mx (letters a)), (2, .v .mx (rpc r)), (6, .v .pl (int j))], []⟩) ?_ ?_
  exact ⟨_, 0, rfl, Nat.zero_le _, fun j hj => absurd hj (by omega), rfl⟩
  rintro zm zs ⟨j, rfl, hL2_0, hL2_1, rfl⟩
  refine xA tb hM0 6 [1,2,6,38,40] [] rfl ?_
  refine oP rfl (pure_lenm rfl Tryz.underlying23 rfl) ?_
  refine xA tb hM0 3 [1,2,6,42] [] rfl ?_
  refine spC 42 rfl ?_ ?_ <;> intro h5 <;> try simp only [dq] at h5
  refine xA tb hM0 10 [1,2,6,46,47] [] rfl ?_
  refine oP rfl (pure_ix rfl Tryz.underlying23 sz25 rfl rfl (by omega) (fun _ => rfl)) ?_
  refine xA tb hM0 2 [1,2,6,49,50] [] rfl ?_
  refine oP rfl (pure_call rfl rfl rfl (ih _ (Nat.le_of_lt_succ (Nat.lt_of_lt_of_le (kid_lt (by omega)) hr)) (by omega)) hM0) ?_
  refine xA tb hM0 3 [1,2,6,52] [] rfl ?_
  refine spC 52 rfl ?_ ?_ <;> intro h6 <;> try simp only [dq] at h6
  refine xA tb hM0 12 [] [] rfl ?_
  refine end_ret rfl ?_; rotate_left
  refine xA tb hM0 6 [1,2,43] [] rfl ?_
  refine oP rfl (pure_addi rfl rfl rfl (by omega)) ?_
  refine xA tb hM0 2 [1,2,6] [] rfl ?_
  refine nx ?_
  refine ⟨_, ⟨j + 1, rfl, by omega, all_step hL2_1 (by simp_all), rfl⟩, by omega⟩
  refine xA tb hM0 12 [] [] rfl ?_
  refine end_ret rfl ?_; rotate_left
  all_goals first
   | (
     first | (rw [knownR_no (i := i) (by omega) (by unfold symK; simp_all)]; done) | (rw [knownR_all (fun j hj => hL1_1 j (by omega)) (fun k hk => hL2_1 k (by omega))]; done) | (rw [knownR_kid (j := j) (by omega) (by assumption)]; done); done)
   | (
     refine ⟨_, ⟨i + 1, rfl, by omega, all_step hL1_1 (by unfold symK; simp_all; try omega), rfl⟩, by omega⟩; done)
end Go.Proofs.YtgdehkimfmfofaaGreat

namespace Go.Proofs.YtgdehkimfmfofaaGreat
open Go.Am Go.Wc
set_option linter.unusedVariables false
set_option linter.unusedSimpArgs false

theorem fn125 : Fn1 Tryz.prog 125 Tryz.f125.ntmps 2 (Tryz.f125.body.getD .skip) := ⟨Tryz.f125, Tryz.func125, rfl, rfl, rfl, by kernel_rfl⟩
set_option maxRecDepth 100000 in
set_option maxHeartbeats 2000000 in
theorem reserved_call {c : UInt8} : CallF Tryz.prog 125 [byte c] (.p (bool (resB c))) := by
  refine callF_of_code fn125 (Nat.le_of_ble_eq_true rfl) fun w0 M0 hM0 => ?_
  refine xC tb hM0 12 [0,3] [] rfl ?_
  refine lp (fun zm zs => ∃ k : Nat, zm = 30 - k ∧ (k ≤ 30) ∧ ((resL.take k).contains c = false) ∧ zs = ⟨14, [(0, .v .mx (byte c)), (3, .v .pl (int k))], []⟩) ?_ ?_
  exact ⟨_, 0, rfl, Nat.zero_le _, rfl, rfl⟩
  rintro zm zs ⟨k, rfl, hL1_0, hL1_1, rfl⟩
  refine xA tb hM0 7 [0,3,5] [] rfl ?_
  refine spC 5 rfl ?_ ?_ <;> intro h1 <;> try simp only [dq] at h1
  refine xA tb hM0 8 [0,3,8] [] rfl ?_
  refine oP rfl (pure_sindex rfl Tryz.underlying9 rfl rfl (by refine ⟨by omega, ?_⟩; simp only [List.length_cons, List.length_nil]; omega)) ?_
  refine xA tb hM0 1 [0,3,9,10] [] rfl ?_
  refine oP rfl (pure_eql rfl rfl rfl) ?_
  refine xA tb hM0 2 [0,3,11] [] rfl ?_
  refine spC 11 rfl ?_ ?_ <;> intro h2 <;> try simp only [dq] at h2
  refine xA tb hM0 12 [] [] rfl ?_
  refine end_ret rfl ?_
  rw [resB_hit (k := k) (by omega) h2]
  refine xA tb hM0 6 [0,6] [] rfl ?_
  refine oP rfl (pure_addi rfl rfl rfl (by omega)) ?_
  refine xA tb hM0 2 [0,3] [] rfl ?_
  refine nx ?_
  exact ⟨_, ⟨k + 1, rfl, by omega, resB_step (by omega) hL1_1 h2, rfl⟩, by omega⟩
  refine xA tb hM0 9 [12] [] rfl ?_
  refine oP rfl (pure_lss rfl rfl rfl) ?_
  refine xA tb hM0 4 [] [] rfl ?_
  refine end_ret rfl ?_
  rw [resB_end (k := k) (by omega) hL1_1]
theorem fn95 : Fn1 Tryz.prog 95 Tryz.f95.ntmps 2 (Tryz.f95.body.getD .skip) := ⟨Tryz.f95, Tryz.func95, rfl, rfl, rfl, by kernel_rfl⟩
set_option maxRecDepth 100000 in
set_option maxHeartbeats 2000000 in
theorem plain_call {s : List UInt8} (hs : s.length ≤ 1099511627776) : CallF Tryz.prog 95 [sbytes s] (.p (bool (plainT s))) := by
  refine callF_of_code fn95 (Nat.le_of_ble_eq_true rfl) fun w0 M0 hM0 => ?_
  refine xC tb hM0 12 [0,3] [] rfl ?_
  refine lp (fun zm zs => ∃ k : Nat, zm = s.length - k ∧ (k ≤ s.length) ∧ ((s.take k).all (fun c => !resB c) = true) ∧ zs = ⟨22, [(0, .v .mx (sbytes s)), (3, .v .pl (int k))], []⟩) ?_ ?_
  exact ⟨_, 0, rfl, Nat.zero_le _, rfl, rfl⟩
  rintro zm zs ⟨k, rfl, hL1_0, hL1_1, rfl⟩
  refine xA tb hM0 5 [0,3,4,5] [] rfl ?_
  refine oP rfl (pure_slen rfl Tryz.underlying9 rfl) ?_
  refine xA tb hM0 3 [0,3,7] [] rfl ?_
  refine spC 7 rfl ?_ ?_ <;> intro h1 <;> try simp only [dq] at h1
  refine xA tb hM0 9 [0,3,10,11] [] rfl ?_
  refine oP rfl (pure_sindex rfl Tryz.underlying9 rfl rfl (by omega)) ?_
  refine oP rfl (pure_call rfl rfl rfl (reserved_call) hM0) ?_
  refine xA tb hM0 2 [0,3,13] [] rfl ?_
  refine spC 13 rfl ?_ ?_ <;> intro h2 <;> try simp only [dq] at h2
  refine xA tb hM0 12 [] [] rfl ?_
  refine end_ret rfl ?_
  rw [plainT_hit (k := k) (by omega) h2]
  refine xA tb hM0 6 [0,8] [] rfl ?_
  refine oP rfl (pure_addi rfl rfl rfl (by omega)) ?_
  refine xA tb hM0 2 [0,3] [] rfl ?_
  refine nx ?_
  exact ⟨_, ⟨k + 1, rfl, by omega, plainT_step (by omega) hL1_1 h2, rfl⟩, by omega⟩
  refine xA tb hM0 9 [0,14] [] rfl ?_
  refine oP rfl (pure_slen rfl Tryz.underlying9 rfl) ?_
  refine xA tb hM0 2 [0,17] [] rfl ?_
  refine spO 17 rfl ?_ ?_ <;> intro h3' <;> try simp only [dq] at h3'
  refine xA tb hM0 1 [17,18] [] rfl ?_
  refine oP rfl (pure_slen rfl Tryz.underlying9 rfl) ?_
  refine xA tb hM0 6 [] [] rfl ?_
  refine end_ret rfl ?_; rotate_left
  refine xA tb hM0 8 [] [] rfl ?_
  refine end_ret rfl ?_; rotate_left
  all_goals
    rw [plainT_end (k := k) (by omega) hL1_1]
    first | (rw [decide_eq_false (p := 1 ≤ s.length) (by omega)]; rfl) | (rw [decide_eq_true (p := 1 ≤ s.length) (by omega), Bool.true_and]; congr 4; apply propext; omega)
end Go.Proofs.YtgdehkimfmfofaaGreat

