/-
  Contracts: what an alternative puts into its list and its set.
-/
import Derived.Test.YtjimlkpfmbachaaJ30
import Derived.Test.YtjimlkpfmbachaaJ22
import Derived.Test.YtjimlkpfmbachaaJ12
import Derived.Test.YtjimlkpfmbachaaJ13
set_option linter.unusedVariables false
set_option linter.unusedSectionVars false
set_option linter.unusedSimpArgs false
namespace Go.Proofs.Ytjimlkpfmbachaa
open Go.Am Go.Wb
set_option linter.unusedVariables false
set_option linter.unusedSimpArgs false

theorem fn67 : Fn1 Try.prog 67 Try.f67.ntmps 2 (Try.f67.body.getD .skip) := ⟨Try.f67, Try.func67, rfl, rfl, rfl, by kernel_rfl⟩
set_option maxRecDepth 100000 in
set_option maxHeartbeats 4000000 in
theorem compact_call {l : List Int} (hl : l.length ≤ 1099511627776) : CallO Try.prog 67 [.own 0] [(0, .arr 3 (l.map int))] (.own 0) [(0, .arr 3 ((cpt (fun x y => decide (x = y)) l).map int))] := by
  refine callO_of_code fn67 (Nat.le_of_ble_eq_true rfl) fun w0 M0 hM0 => ?_
  refine xC tb hM0 9 [0,6] [0] rfl ?_
  refine oP rfl (pure_lenm rfl Try.underlying22 rfl) ?_
  refine xA tb hM0 3 [0,8] [0] rfl ?_
  refine spC 8 rfl ?_ ?_ <;> intro h1 <;> try simp only [dq] at h1
  refine xA tb hM0 9 [] [] rfl ?_
  refine endO_ret (o1 := [(0, _)]) rfl ⟨rfl, trivial⟩ ?_
  rw [cpt_short (by omega)]; exact ⟨rfl, rfl⟩
  refine xA tb hM0 10 [0,3] [0] rfl ?_
  refine lp (fun zm zs => ∃ q : Nat, zm = l.length - q ∧ (1 ≤ q) ∧ (q ≤ l.length) ∧ (cptN (fun x y => decide (x = y)) l q = l.take q) ∧ zs = ⟨61, [(0, .own 0), (3, .v .pl (int q))], [(0, .arr 3 (l.map int))]⟩) ?_ ?_
  exact ⟨_, 1, rfl, Nat.le_refl _, by omega, by rw [cptN_one, take_succ' (by omega)]; rfl, rfl⟩
  rintro zm zs ⟨q, rfl, hL1_0, hL1_1, hL1_2, rfl⟩
  have e0 : ((q : Int) - 1).toNat = q - 1 := by omega
  refine xA tb hM0 5 [0,3,10,11] [0] rfl ?_
  refine oP rfl (pure_lenm rfl Try.underlying22 rfl) ?_
  refine xA tb hM0 3 [0,3,13] [0] rfl ?_
  refine spC 13 rfl ?_ ?_ <;> intro h2 <;> try simp only [dq] at h2
  refine xA tb hM0 6 [0,3] [0] rfl ?_
  refine code_draw mixed (by kernel_rfl) _ rfl ?_
  refine dl_pure rfl rfl rfl (pure_move rfl rfl) ?_
  refine dl_pure rfl rfl rfl (pure_move rfl rfl) ?_
  refine dl_pure rfl rfl rfl (pure_index_own rfl Try.underlying22 sz3 rfl rfl rfl (by first | (simp only [ll]; omega) | omega)) ?_
  refine dl_pure rfl rfl rfl (pure_load_pel rfl ag3 rfl rfl (mget (by first | (simp only [ll]; omega) | omega)) rfl) ?_
  refine dl_pure rfl rfl rfl (pure_move rfl rfl) ?_
  refine dl_pure rfl rfl rfl (pure_move rfl rfl) ?_
  refine dl_pure rfl rfl rfl (pure_subi rfl rfl rfl (by omega)) ?_
  refine dl_pure rfl rfl rfl (pure_index_own rfl Try.underlying22 sz3 rfl rfl rfl (by first | (simp only [ll]; omega) | omega)) ?_
  refine dl_pure rfl rfl rfl (pure_load_pel rfl ag3 rfl rfl (mget (by first | (simp only [ll]; omega) | omega)) rfl) ?_
  refine dl_pure rfl rfl rfl (pure_eql rfl rfl rfl) ?_
  refine dl_nil ?_
  refine xD tb hM0 1 [0,3,25] [0] rfl ?_
  refine spC 25 rfl ?_ ?_ <;> intro h3 <;> try simp only [dq] at h3
  refine xA tb hM0 5 [0,3,26,27] [0] rfl ?_
  refine oP rfl (pure_slice_ownl rfl Try.underlying22 sz3 rfl rfl rfl (by first | (simp only [ll]; omega) | omega)) ?_
  refine xA tb hM0 10 [0,3,4,5] [0] rfl ?_
  refine lp (fun zm zs => ∃ (ys : List Int) (k j : Nat), zm = l.length - q - j ∧ (1 ≤ j) ∧ (q + j ≤ l.length) ∧ (ys.length = l.length) ∧ (cptN (fun x y => decide (x = y)) l (q + j) = ys.take k) ∧ (k + 1 ≤ q + j) ∧ (∀ i, q + j ≤ i + 1 → ys.getD i default = l.getD i default) ∧ zs = ⟨61, [(0, .own 0), (3, .v .pl (int k)), (4, .vsl 0 q ((l.map int).length - q)), (5, .v .pl (int j))], [(0, .arr 3 (ys.map int))]⟩) ?_ ?_
  rw [e0] at h3
  exact ⟨_, l, q, 1, rfl, Nat.le_refl _, by omega, rfl, (cptN_dup (by omega) (decide_eq_true h3)).trans hL1_2, Nat.le_refl _, fun i _ => rfl, rfl⟩
  rintro zm zs ⟨ys, k, j, rfl, hL2_0, hL2_1, hL2_2, hL2_3, hL2_4, hL2_5, rfl⟩
  refine xA tb hM0 5 [0,3,4,5,29,30] [0] rfl ?_
  refine oP rfl (pure_len_vsl rfl Try.underlying22 rfl rfl) ?_
  refine xA tb hM0 3 [0,3,4,5,32] [0] rfl ?_
  refine spC 32 rfl ?_ ?_ <;> intro h4 <;> try simp only [dq] at h4
  refine xA tb hM0 6 [0,3,4,5] [0] rfl ?_
  refine code_draw mixed (by kernel_rfl) _ rfl ?_
  refine dl_pure rfl rfl rfl (pure_move rfl rfl) ?_
  refine dl_pure rfl rfl rfl (pure_move rfl rfl) ?_
  refine dl_pure rfl rfl rfl (pure_index_vsl rfl Try.underlying22 sz3 rfl rfl rfl (by first | (simp only [ll]; omega) | omega)) ?_
  refine dl_pure rfl rfl rfl (pure_load_pel rfl ag3 rfl rfl (mget (by first | (simp only [ll]; omega) | omega)) rfl) ?_
  refine dl_pure rfl rfl rfl (pure_move rfl rfl) ?_
  refine dl_pure rfl rfl rfl (pure_move rfl rfl) ?_
  refine dl_pure rfl rfl rfl (pure_subi rfl rfl rfl (by omega)) ?_
  refine dl_pure rfl rfl rfl (pure_index_vsl rfl Try.underlying22 sz3 rfl rfl rfl (by first | (simp only [ll]; omega) | omega)) ?_
  refine dl_pure rfl rfl rfl (pure_load_pel rfl ag3 rfl rfl (mget (by first | (simp only [ll]; omega) | omega)) rfl) ?_
  refine dl_pure rfl rfl rfl (pure_neq rfl rfl rfl) ?_
  refine dl_nil ?_
  refine xD tb hM0 1 [0,3,4,5,44] [0] rfl ?_
  refine spC 44 rfl ?_ ?_ <;> intro h5 <;> try simp only [dq] at h5
  refine xA tb hM0 7 [0,3,4,5,45,46,47,48] [0] rfl ?_
  refine oP rfl (pure_index_vsl rfl Try.underlying22 sz3 rfl rfl rfl (by first | (simp only [ll]; omega) | omega)) ?_
  refine oP rfl (pure_load_pel rfl ag3 rfl rfl (mget (by first | (simp only [ll]; omega) | omega)) rfl) ?_
  refine xA tb hM0 0 [0,3,4,5,45,46,50] [0] rfl ?_
  refine oP rfl (pure_index_own rfl Try.underlying22 sz3 rfl rfl rfl (by first | (simp only [ll]; omega) | omega)) ?_
  refine oS rfl (step_store_pel rfl rfl rfl sz3 rfl rfl (mget (by first | (simp only [ll]; omega) | omega)) rfl rfl (.inl rfl) rfl (Nat.le_of_ble_eq_true rfl) hM0) rfl ?_
  refine xA tb hM0 4 [0,4,5,52] [0] rfl ?_
  refine oP rfl (pure_addi rfl rfl rfl (by omega)) ?_
  refine xA tb hM0 6 [0,3,4,33] [0] rfl ?_
  refine oP rfl (pure_addi rfl rfl rfl (by omega)) ?_
  refine xA tb hM0 2 [0,3,4,5] [0] rfl ?_
  refine nx ?_
  have e1 : ((j : Int) - 1).toNat = j - 1 := by omega
  rw [e1, hL2_5 (q + j) (by omega), hL2_5 (q + (j - 1)) (by omega)] at h5
  refine ⟨_, ⟨ys.set k (l.getD (q + j) default), k + 1, j + 1, rfl, by omega, by omega, by simpa using hL2_2, cpt_put (by omega) hL2_3 ?_, by omega, fun i hi => ?_, ?_⟩, by omega⟩
  · rw [show q + j - 1 = q + (j - 1) by omega]
    exact decide_eq_false h5
  · rw [getD_set_ne' (by omega)]; exact hL2_5 i (by omega)
  · rw [List.map_set, ← hL2_5 (q + j) (by omega)]; rfl
  refine xA tb hM0 6 [0,3,4,33] [0] rfl ?_
  refine oP rfl (pure_addi rfl rfl rfl (by omega)) ?_
  refine xA tb hM0 2 [0,3,4,5] [0] rfl ?_
  refine nx ?_
  have e1 : ((j : Int) - 1).toNat = j - 1 := by omega
  rw [e1, hL2_5 (q + j) (by omega), hL2_5 (q + (j - 1)) (by omega)] at h5
  refine ⟨_, ⟨ys, k, j + 1, rfl, by omega, by omega, hL2_2, cpt_skip (by omega) hL2_3 ?_, by omega, fun i hi => hL2_5 i (by omega), rfl⟩, by omega⟩
  rw [show q + j - 1 = q + (j - 1) by omega]
  exact decide_eq_true h5
  refine xA tb hM0 10 [0,3,54,55] [0] rfl ?_
  refine oP rfl (pure_slice_ownl rfl Try.underlying22 sz3 rfl rfl rfl (by first | (simp only [ll]; omega) | omega)) ?_
  refine oS rfl (step_clear_vsl (zv := int 0) rfl rfl rfl Try.underlying22 sz3 rfl rfl ze3 (by decide) rfl rfl hM0) rfl ?_
  refine xA tb hM0 6 [57,58] [0] rfl ?_
  refine oP rfl (pure_slice_own rfl Try.underlying22 sz3 rfl rfl rfl (by first | (simp only [ll]; omega) | omega)) ?_
  refine ol_trunc 59 rfl rfl hM0 rfl ?_
  refine xO tb hM0 9 [] [] rfl ?_
  refine endO_ret (o1 := [(0, _)]) rfl ⟨rfl, trivial⟩ ?_
  refine ⟨rfl, ?_⟩
  rw [← cpt_fin (f := int) (k := k) (n := q + j) (by omega) (by omega) hL2_3]; rfl
  refine xA tb hM0 6 [0,14] [0] rfl ?_
  refine oP rfl (pure_addi rfl rfl rfl (by omega)) ?_
  refine xA tb hM0 2 [0,3] [0] rfl ?_
  refine nx ?_
  rw [e0] at h3
  exact ⟨_, ⟨q + 1, rfl, by omega, by omega, cptN_take (by omega) hL1_2 (decide_eq_false h3), rfl⟩, by omega⟩
  refine xA tb hM0 13 [] [] rfl ?_
  refine endO_ret (o1 := [(0, _)]) rfl ⟨rfl, trivial⟩ ?_
  rw [cpt_all (n := q) (by omega) hL1_2]; exact ⟨rfl, rfl⟩

theorem fn70 : Fn1 Try.prog 70 Try.f70.ntmps 4 (Try.f70.body.getD .skip) := ⟨Try.f70, Try.func70, rfl, rfl, rfl, by kernel_rfl⟩
set_option maxRecDepth 100000 in
set_option maxHeartbeats 4000000 in
theorem compactF_call {l : List Rx} {eq : Rx → Rx → Bool} {g : FuncId} (hl : l.length ≤ 1099511627776) (hf : ∀ x ∈ l, ∀ y ∈ l, CallF Try.prog g [rx x, rx y] (.p (bool (eq x y)))) :
    CallO Try.prog 70 [.own 0, .v .pl (.clo g [])] [(0, .arr 47 (l.map rx))] (.own 0) [(0, .arr 47 ((cpt eq l).map rx))] := by
  refine callO_of_code fn70 (Nat.le_of_ble_eq_true rfl) fun w0 M0 hM0 => ?_
  refine xC tb hM0 9 [0,1,8] [0] rfl ?_
  refine oP rfl (pure_lenm rfl Try.underlying45 rfl) ?_
  refine xA tb hM0 3 [0,1,10] [0] rfl ?_
  refine spC 10 rfl ?_ ?_ <;> intro h1 <;> try simp only [dq] at h1
  refine xA tb hM0 9 [] [] rfl ?_
  refine endO_ret (o1 := [(0, _)]) rfl ⟨rfl, trivial⟩ ?_
  rw [cpt_short (by omega)]; exact ⟨rfl, rfl⟩
  refine xA tb hM0 10 [0,1,5] [0] rfl ?_
  refine lp (fun zm zs => ∃ q : Nat, zm = l.length - q ∧ (1 ≤ q) ∧ (q ≤ l.length) ∧ (cptN (eq) l q = l.take q) ∧ zs = ⟨66, [(0, .own 0), (1, .v .pl (.clo g [])), (5, .v .pl (int q))], [(0, .arr 47 (l.map rx))]⟩) ?_ ?_
  exact ⟨_, 1, rfl, Nat.le_refl _, by omega, by rw [cptN_one, take_succ' (by omega)]; rfl, rfl⟩
  rintro zm zs ⟨q, rfl, hL1_0, hL1_1, hL1_2, rfl⟩
  have e0 : ((q : Int) - 1).toNat = q - 1 := by omega
  refine xA tb hM0 5 [0,1,5,12,13] [0] rfl ?_
  refine oP rfl (pure_lenm rfl Try.underlying45 rfl) ?_
  refine xA tb hM0 3 [0,1,5,15] [0] rfl ?_
  refine spC 15 rfl ?_ ?_ <;> intro h2 <;> try simp only [dq] at h2
  refine xA tb hM0 6 [0,1,5] [0] rfl ?_
  refine code_draw mixed (by kernel_rfl) _ rfl ?_
  refine dl_pure rfl rfl rfl (pure_move rfl rfl) ?_
  refine dl_pure rfl rfl rfl (pure_move rfl rfl) ?_
  refine dl_pure rfl rfl rfl (pure_move rfl rfl) ?_
  refine dl_pure rfl rfl rfl (pure_index_own rfl Try.underlying45 sz47 rfl rfl rfl (by first | (simp only [ll]; omega) | omega)) ?_
  refine dl_pure rfl rfl rfl (pure_load_pel_agg rfl ag47 sz47 rfl rfl sz47 (mget (by first | (simp only [ll]; omega) | omega))) ?_
  refine dl_pure rfl rfl rfl (pure_move rfl rfl) ?_
  refine dl_pure rfl rfl rfl (pure_move rfl rfl) ?_
  refine dpk 66 [(0,_),(1,_),(5,_),(18,_),(22,_),(23,_),(24,_)] [(0,_)] rfl rfl rfl ?_
  refine dl_pure rfl rfl rfl (pure_subi rfl rfl rfl (by omega)) ?_
  refine dl_pure rfl rfl rfl (pure_index_own rfl Try.underlying45 sz47 rfl rfl rfl (by first | (simp only [ll]; omega) | omega)) ?_
  refine dl_pure rfl rfl rfl (pure_load_pel_agg rfl ag47 sz47 rfl rfl sz47 (mget (by first | (simp only [ll]; omega) | omega))) ?_
  refine dl_pure rfl rfl rfl (pure_call rfl rfl rfl (hf _ (kid_mem (by omega)) _ (kid_mem (by omega))) hM0) ?_
  refine dl_nil ?_
  refine xD tb hM0 1 [0,1,5,28] [0] rfl ?_
  refine spC 28 rfl ?_ ?_ <;> intro h3 <;> try simp only [dq] at h3
  refine xA tb hM0 5 [0,1,5,29,30] [0] rfl ?_
  refine oP rfl (pure_slice_ownl rfl Try.underlying45 sz47 rfl rfl rfl (by first | (simp only [ll]; omega) | omega)) ?_
  refine xA tb hM0 10 [0,1,5,6,7] [0] rfl ?_
  refine lp (fun zm zs => ∃ (ys : List Rx) (k j : Nat), zm = l.length - q - j ∧ (1 ≤ j) ∧ (q + j ≤ l.length) ∧ (ys.length = l.length) ∧ (cptN (eq) l (q + j) = ys.take k) ∧ (k + 1 ≤ q + j) ∧ (∀ i, q + j ≤ i + 1 → ys.getD i default = l.getD i default) ∧ (∀ x ∈ ys, x ∈ l) ∧ zs = ⟨66, [(0, .own 0), (1, .v .pl (.clo g [])), (5, .v .pl (int k)), (6, .vsl 0 q ((l.map rx).length - q)), (7, .v .pl (int j))], [(0, .arr 47 (ys.map rx))]⟩) ?_ ?_
  rw [e0] at h3
  exact ⟨_, l, q, 1, rfl, Nat.le_refl _, by omega, rfl, (cptN_dup (by omega) (h3)).trans hL1_2, Nat.le_refl _, fun i _ => rfl, fun x hx => hx, rfl⟩
  rintro zm zs ⟨ys, k, j, rfl, hL2_0, hL2_1, hL2_2, hL2_3, hL2_4, hL2_5, hL2_6, rfl⟩
  refine xA tb hM0 5 [0,1,5,6,7,32,33] [0] rfl ?_
  refine oP rfl (pure_len_vsl rfl Try.underlying45 rfl rfl) ?_
  refine xA tb hM0 3 [0,1,5,6,7,35] [0] rfl ?_
  refine spC 35 rfl ?_ ?_ <;> intro h4 <;> try simp only [dq] at h4
  refine xA tb hM0 6 [0,1,5,6,7] [0] rfl ?_
  refine code_draw mixed (by kernel_rfl) _ rfl ?_
  refine dl_pure rfl rfl rfl (pure_move rfl rfl) ?_
  refine dl_pure rfl rfl rfl (pure_move rfl rfl) ?_
  refine dl_pure rfl rfl rfl (pure_move rfl rfl) ?_
  refine dl_pure rfl rfl rfl (pure_index_vsl rfl Try.underlying45 sz47 rfl rfl rfl (by first | (simp only [ll]; omega) | omega)) ?_
  refine dl_pure rfl rfl rfl (pure_load_pel_agg rfl ag47 sz47 rfl rfl sz47 (mget (by first | (simp only [ll]; omega) | omega))) ?_
  refine dl_pure rfl rfl rfl (pure_move rfl rfl) ?_
  refine dl_pure rfl rfl rfl (pure_move rfl rfl) ?_
  refine dpk 66 [(0,_),(1,_),(5,_),(6,_),(7,_),(38,_),(42,_),(43,_),(44,_)] [(0,_)] rfl rfl rfl ?_
  refine dl_pure rfl rfl rfl (pure_subi rfl rfl rfl (by omega)) ?_
  refine dl_pure rfl rfl rfl (pure_index_vsl rfl Try.underlying45 sz47 rfl rfl rfl (by first | (simp only [ll]; omega) | omega)) ?_
  refine dl_pure rfl rfl rfl (pure_load_pel_agg rfl ag47 sz47 rfl rfl sz47 (mget (by first | (simp only [ll]; omega) | omega))) ?_
  refine dl_pure rfl rfl rfl (pure_call rfl rfl rfl (hf _ (hL2_6 _ (kid_mem (by omega))) _ (hL2_6 _ (kid_mem (by omega)))) hM0) ?_
  refine dl_pure rfl rfl rfl (pure_not rfl rfl) ?_
  refine dl_nil ?_
  refine xD tb hM0 1 [0,1,5,6,7,49] [0] rfl ?_
  refine spC 49 rfl ?_ ?_ <;> intro h5 <;> try simp only [dq] at h5
  refine xA tb hM0 7 [0,1,5,6,7,50,51,52,53] [0] rfl ?_
  refine oP rfl (pure_index_vsl rfl Try.underlying45 sz47 rfl rfl rfl (by first | (simp only [ll]; omega) | omega)) ?_
  refine oP rfl (pure_load_pel_agg rfl ag47 sz47 rfl rfl sz47 (mget (by first | (simp only [ll]; omega) | omega))) ?_
  refine xA tb hM0 0 [0,1,5,6,7,50,51,55] [0] rfl ?_
  refine oP rfl (pure_index_own rfl Try.underlying45 sz47 rfl rfl rfl (by first | (simp only [ll]; omega) | omega)) ?_
  refine oS rfl (step_store_pel rfl rfl rfl sz47 rfl rfl (mget (by first | (simp only [ll]; omega) | omega)) rfl rfl (.inl rfl) rfl (Nat.le_of_ble_eq_true rfl) hM0) rfl ?_
  refine xA tb hM0 4 [0,1,6,7,57] [0] rfl ?_
  refine oP rfl (pure_addi rfl rfl rfl (by omega)) ?_
  refine xA tb hM0 6 [0,1,5,6,36] [0] rfl ?_
  refine oP rfl (pure_addi rfl rfl rfl (by omega)) ?_
  refine xA tb hM0 2 [0,1,5,6,7] [0] rfl ?_
  refine nx ?_
  have e1 : ((j : Int) - 1).toNat = j - 1 := by omega
  rw [e1, hL2_5 (q + j) (by omega), hL2_5 (q + (j - 1)) (by omega)] at h5
  refine ⟨_, ⟨ys.set k (l.getD (q + j) default), k + 1, j + 1, rfl, by omega, by omega, by simpa using hL2_2, cpt_put (by omega) hL2_3 ?_, by omega, fun i hi => ?_, fun x hx => ?_, ?_⟩, by omega⟩
  · rw [show q + j - 1 = q + (j - 1) by omega]
    exact h5
  · rw [getD_set_ne' (by omega)]; exact hL2_5 i (by omega)
  · rcases List.mem_or_eq_of_mem_set hx with hx | rfl
    · exact hL2_6 x hx
    · exact kid_mem (by omega)
  · rw [List.map_set, ← hL2_5 (q + j) (by omega)]; rfl
  refine xA tb hM0 6 [0,1,5,6,36] [0] rfl ?_
  refine oP rfl (pure_addi rfl rfl rfl (by omega)) ?_
  refine xA tb hM0 2 [0,1,5,6,7] [0] rfl ?_
  refine nx ?_
  have e1 : ((j : Int) - 1).toNat = j - 1 := by omega
  rw [e1, hL2_5 (q + j) (by omega), hL2_5 (q + (j - 1)) (by omega)] at h5
  refine ⟨_, ⟨ys, k, j + 1, rfl, by omega, by omega, hL2_2, cpt_skip (by omega) hL2_3 ?_, by omega, fun i hi => hL2_5 i (by omega), hL2_6, rfl⟩, by omega⟩
  rw [show q + j - 1 = q + (j - 1) by omega]
  exact h5
  refine xA tb hM0 10 [0,5,59,60] [0] rfl ?_
  refine oP rfl (pure_slice_ownl rfl Try.underlying45 sz47 rfl rfl rfl (by first | (simp only [ll]; omega) | omega)) ?_
  refine oS rfl (step_clear_vsl (zv := .agg [int 0, .sc (.slice none 0 0), .sc (.slice none 0 0)]) rfl rfl rfl Try.underlying45 sz47 rfl rfl ze47 (by decide) rfl rfl hM0) rfl ?_
  refine xA tb hM0 6 [62,63] [0] rfl ?_
  refine oP rfl (pure_slice_own rfl Try.underlying45 sz47 rfl rfl rfl (by first | (simp only [ll]; omega) | omega)) ?_
  refine ol_trunc 64 rfl rfl hM0 rfl ?_
  refine xO tb hM0 9 [] [] rfl ?_
  refine endO_ret (o1 := [(0, _)]) rfl ⟨rfl, trivial⟩ ?_
  refine ⟨rfl, ?_⟩
  rw [← cpt_fin (f := rx) (k := k) (n := q + j) (by omega) (by omega) hL2_3]; rfl
  refine xA tb hM0 6 [0,1,16] [0] rfl ?_
  refine oP rfl (pure_addi rfl rfl rfl (by omega)) ?_
  refine xA tb hM0 2 [0,1,5] [0] rfl ?_
  refine nx ?_
  rw [e0] at h3
  exact ⟨_, ⟨q + 1, rfl, by omega, by omega, cptN_take (by omega) hL1_2 (h3), rfl⟩, by omega⟩
  refine xA tb hM0 13 [] [] rfl ?_
  refine endO_ret (o1 := [(0, _)]) rfl ⟨rfl, trivial⟩ ?_
  rw [cpt_all (n := q) (by omega) hL1_2]; exact ⟨rfl, rfl⟩
end Go.Proofs.Ytjimlkpfmbachaa

namespace Go.Proofs.Ytjimlkpfmbachaa
open Go.Am Go.Wb
set_option linter.unusedVariables false
set_option linter.unusedSimpArgs false

abbrev putO (s : List Int) (k : List Rx) : List (Nat × Ob) := [(10, .arr 3 (s.map int)), (11, .arr 47 (k.map rx)), (1000001, .box 22 [.own 10]), (1000002, .box 45 [.own 11])]
theorem fn65 : Fn0 Try.prog 65 Try.f65.ntmps (Try.f65.body.getD .skip) := ⟨Try.f65, Try.func65, rfl, rfl, rfl, by kernel_rfl⟩
set_option maxRecDepth 100000 in
set_option maxHeartbeats 4000000 in
theorem put_call {x : Rx} {s : List Int} {k : List Rx} (hs : s.length + x.syms.length ≤ 1099511627776) (hk : k.length ≤ 1099511627776) :
    CallO Try.prog 65 [.v .pl (rx x), .pbox 1000001 0, .pbox 1000002 0] (putO s k) (.v .pl (.tup [])) (putO (putS s x) (putK k x)) := by
  rw [rx_eq x]
  refine callO_of_code0 fn65 (Nat.le_of_ble_eq_true rfl) fun w0 M0 hM0 => ?_
  refine xC tb hM0 2 [0,1,2] [10,11,1000001,1000002] rfl ?_
  refine oP rfl (pure_box rfl rfl rfl hM0) ?_
  refine xA tb hM0 15 [1,2,3,5,12] [10,11,1000001,1000002] rfl ?_
  refine spC 12 rfl ?_ ?_ <;> intro h1 <;> try simp only [dq] at h1
  refine xA tb hM0 3 [] [] rfl ?_
  refine endO0_normal (o1 := [(10, _), (11, _), (1000001, _), (1000002, _)]) ⟨rfl, rfl, rfl, rfl, trivial⟩ ?_
  rw [putS_x (by omega), putK_0 (by omega)]
  refine xA tb hM0 7 [1,2,3,14] [10,11,1000001,1000002] rfl ?_
  refine spC 14 rfl ?_ ?_ <;> intro h2 <;> try simp only [dq] at h2
  refine xA tb hM0 5 [1,16,18] [10,11,1000001,1000002] rfl ?_
  refine oS rfl (step_append rfl rfl rfl rfl Try.underlying22 el3 rfl rfl hM0 (src_scm rfl (fun _ => ⟨_, rfl⟩)) (by first | (simp only [ll]; omega) | omega) (by first | (simp only [ll]; omega) | omega)) rfl ?_
  refine xA tb hM0 3 [] [] rfl ?_
  refine endO0_normal (o1 := [(10, _), (11, _), (1000001, _), (1000002, _)]) ⟨rfl, rfl, rfl, rfl, trivial⟩ ?_
  rw [putS_2 (by omega), putK_0 (by omega)]; unfold putO; rw [List.map_append]; try rfl
  refine xA tb hM0 1 [2,3] [10,11,1000001,1000002] rfl ?_
  refine code_draw mixed (by kernel_rfl) _ rfl ?_
  refine dl_pure rfl rfl rfl (pure_load_box rfl ag45 rfl rfl rfl) ?_
  refine dl_pure rfl rfl rfl (pure_load_agg rfl ag47 sz47 rfl (Nat.le_of_ble_eq_true rfl)) ?_
  refine dl_pure rfl rfl rfl (pure_lenm rfl Try.underlying45 rfl) ?_
  refine dl_pure rfl rfl rfl (pure_lit rfl Try.underlying45 el47 rfl rfl rfl rfl hM0) ?_
  refine dl_ends (by kernel_rfl) (endL_of (n := 4) (by kernel_rfl) ?_)
  refine ex_one (i := 4) (by kernel_rfl) rfl rfl (step_append rfl rfl rfl rfl Try.underlying45 el47 rfl rfl hM0 (src_pl rfl (one_len (by rfl))) (by first | (simp only [ll]; omega) | omega) (by first | (simp only [ll]; omega) | omega)) ?_
  refine ex_two (i := 5) (j := 7) (by kernel_rfl) rfl rfl rfl rfl (st_pure rfl rfl (pure_index_own rfl Try.underlying45 sz47 rfl rfl rfl (by first | (simp only [ll]; omega) | omega))) (step_store_box_own rfl rfl rfl sz45 rfl rfl rfl rfl rfl hM0) ?_ ?_
  refine ex_two (i := 6) (j := 7) (by kernel_rfl) rfl rfl rfl rfl (step_store_pel rfl rfl rfl sz47 rfl rfl (get_lastm rx k _) rfl rfl (.inl rfl) rfl (Nat.le_of_ble_eq_true rfl) hM0) (step_store_box_own rfl rfl rfl sz45 rfl rfl rfl rfl rfl hM0) ?_ ?_
  refine ex_one (i := 7) (by kernel_rfl) rfl rfl (step_store_box_own rfl rfl rfl sz45 rfl rfl rfl rfl rfl hM0) ?_
  refine ex_end (by kernel_rfl) ?_
  refine xD tb hM0 1 [] [] rfl ?_
  refine endO0_normal (o1 := [(10, _), (11, _), (1000001, _), (1000002, _)]) ⟨rfl, rfl, rfl, rfl, trivial⟩ ?_; rotate_left
  refine ex_one (i := 6) (by kernel_rfl) rfl rfl (step_store_pel rfl rfl rfl sz47 rfl rfl (get_lastm rx k _) rfl rfl (.inl rfl) rfl (Nat.le_of_ble_eq_true rfl) hM0) ?_
  refine ex_end (by kernel_rfl) ?_
  refine xD tb hM0 1 [] [] rfl ?_
  refine endO0_normal (o1 := [(10, _), (11, _), (1000001, _), (1000002, _)]) ⟨rfl, rfl, rfl, rfl, trivial⟩ ?_; rotate_left
  refine ex_one (i := 5) (by kernel_rfl) rfl rfl (st_pure rfl rfl (pure_index_own rfl Try.underlying45 sz47 rfl rfl rfl (by first | (simp only [ll]; omega) | omega))) ?_
  refine ex_one (i := 6) (by kernel_rfl) rfl rfl (step_store_pel rfl rfl rfl sz47 rfl rfl (get_lastm rx k _) rfl rfl (.inl rfl) rfl (Nat.le_of_ble_eq_true rfl) hM0) ?_
  refine ex_end (by kernel_rfl) ?_
  refine xD tb hM0 1 [] [] rfl ?_
  refine endO0_normal (o1 := [(10, _), (11, _), (1000001, _), (1000002, _)]) ⟨rfl, rfl, rfl, rfl, trivial⟩ ?_; rotate_left
  all_goals
    rw [putS_x (by omega), putK_x (by omega)]; unfold putO; rw [← set_last (z := .agg [int 0, .sc (.slice none 0 0), .sc (.slice none 0 0)]), rx_eq x]; rfl
end Go.Proofs.Ytjimlkpfmbachaa

