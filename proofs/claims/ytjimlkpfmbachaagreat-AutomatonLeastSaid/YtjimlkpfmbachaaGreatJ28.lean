/-
  Contract: the reference's least word.
-/
import Derived.Test.YtjimlkpfmbachaaGreatJ27
import Derived.Test.YtjimlkpfmbachaaGreatJ16
import Derived.Test.YtjimlkpfmbachaaGreatJ17
import Derived.Test.YtjimlkpfmbachaaGreatJ19
import Derived.Test.YtjimlkpfmbachaaGreatJ20
set_option linter.unusedVariables false
set_option linter.unusedSectionVars false
set_option linter.unusedSimpArgs false
namespace Go.Proofs.YtjimlkpfmbachaaGreat
open Go.Am Go.Wc Go.Wb Go.Wd
set_option linter.unusedVariables false
set_option linter.unusedSimpArgs false
theorem fn101 : Fn1 Tryz.prog 101 Tryz.f101.ntmps 4 (Tryz.f101.body.getD .skip) := ⟨Tryz.f101, Tryz.func101, rfl, rfl, rfl, by kernel_rfl⟩
set_option maxRecDepth 100000 in
set_option maxHeartbeats 1000000 in
theorem idxI_call {l : List Int} {p : Int → Bool} {g : FuncId} {caps : List AV} (hl : l.length ≤ 1099511627776) (hf : ∀ x ∈ l, CallF Tryz.prog g ([int x] ++ caps) (.p (bool (p x)))) : CallF Tryz.prog 101 [ints l, .clo g caps] (.p (int (idxF p l))) := by
  refine callF_of_code fn101 (Nat.le_of_ble_eq_true rfl) fun w0 M0 hM0 => ?_
  refine xC tb hM0 9 [0,1,6] [] rfl ?_
  refine oP rfl (pure_lenm rfl Tryz.underlying22 rfl) ?_
  refine xA tb hM0 4 [0,1,7,8] [] rfl ?_
  refine lp (fun zm zs => ∃ k : Nat, zm = l.length - k ∧ (k ≤ l.length) ∧ (∀ j, j < k → p (l.getD j default) = false) ∧ zs = ⟨19, [(0, .v .mx (ints l)), (1, .v .mx (.clo g caps)), (7, .v .pl (int l.length)), (8, .v .pl (int k))], []⟩) ?_ ?_
  exact ⟨_, 0, rfl, Nat.zero_le _, fun j hj => absurd hj (by omega), rfl⟩
  rintro zm zs ⟨k, rfl, hL1_0, hL1_1, rfl⟩
  refine xA tb hM0 6 [0,1,7,8,9] [] rfl ?_
  refine spC 9 rfl ?_ ?_ <;> intro h1 <;> try simp only [dq] at h1
  refine xA tb hM0 16 [0,1,5,7,8,11,12,13] [] rfl ?_
  refine oP rfl (pure_ix rfl Tryz.underlying22 sz3 rfl rfl (by omega) (fun _ => rfl)) ?_
  refine xA tb hM0 1 [0,1,5,7,8,11,15] [] rfl ?_
  refine oP rfl (pure_call rfl rfl rfl (hf _ (el_mem (by omega))) hM0) ?_
  refine xA tb hM0 2 [0,1,5,7,8,16] [] rfl ?_
  refine spC 16 rfl ?_ ?_ <;> intro h2 <;> try simp only [dq] at h2
  refine xA tb hM0 13 [] [] rfl ?_
  refine end_ret rfl ?_
  rw [← idxF_hit (p := p) (l := l) (k := k) (by omega) hL1_1 (by simp_all)]
  refine xA tb hM0 5 [0,1,7,8] [] rfl ?_
  refine oP rfl (pure_addi rfl rfl rfl (by omega)) ?_
  refine xA tb hM0 2 [0,1,7,8] [] rfl ?_
  refine nx ?_
  exact ⟨_, ⟨k + 1, rfl, by omega, all_step hL1_1 (by simp_all), rfl⟩, by omega⟩
  refine xA tb hM0 12 [] [] rfl ?_
  refine end_ret rfl ?_
  rw [← idxF_none (p := p) (l := l) (fun j hj => hL1_1 j (by omega))]
theorem fn80 : Fn1 Tryz.prog 80 Tryz.f80.ntmps 4 (Tryz.f80.body.getD .skip) := ⟨Tryz.f80, Tryz.func80, rfl, rfl, rfl, by kernel_rfl⟩
set_option maxRecDepth 100000 in
set_option maxHeartbeats 1000000 in
theorem hasI_call {l : List Int} {p : Int → Bool} {g : FuncId} {caps : List AV} (hl : l.length ≤ 1099511627776) (hf : ∀ x ∈ l, CallF Tryz.prog g ([int x] ++ caps) (.p (bool (p x)))) : CallF Tryz.prog 80 [ints l, .clo g caps] (.p (bool (l.any p))) := by
  refine callF_of_code fn80 (Nat.le_of_ble_eq_true rfl) fun w0 M0 hM0 => ?_
  refine xC tb hM0 9 [5,6] [] rfl ?_
  refine oP rfl (pure_call rfl rfl rfl (idxI_call hl hf) hM0) ?_
  refine xA tb hM0 5 [] [] rfl ?_
  refine end_ret rfl ?_
  rw [idxF_ge]
theorem fn81 : Fn1 Tryz.prog 81 Tryz.f81.ntmps 3 (Tryz.f81.body.getD .skip) := ⟨Tryz.f81, Tryz.func81, rfl, rfl, rfl, by kernel_rfl⟩
set_option maxRecDepth 100000 in
set_option maxHeartbeats 1000000 in
theorem valid1_call {n : Nat} {k : Int} : CallF Tryz.prog 81 ([int k] ++ [.pc [int n] 0]) (.p (bool (pOut n k))) := by
  refine callF_of_code fn81 (Nat.le_of_ble_eq_true rfl) fun w0 M0 hM0 => ?_
  refine xC tb hM0 10 [0,1,6] [] rfl ?_
  refine spO 6 rfl ?_ ?_ <;> intro h1' <;> try simp only [dq] at h1'
  refine xA tb hM0 8 [] [] rfl ?_
  refine end_ret rfl ?_; rotate_left
  refine xA tb hM0 8 [] [] rfl ?_
  refine end_ret rfl ?_; rotate_left
  all_goals
    unfold pOut
    first
      | (rw [decide_eq_true (p := k < 0) (by omega)]; first | done | rfl)
      | (rw [decide_eq_false (p := k < 0) (by omega)]; first | done | rfl)
theorem fn35 : Fn1 Tryz.prog 35 Tryz.f35.ntmps 2 (Tryz.f35.body.getD .skip) := ⟨Tryz.f35, Tryz.func35, rfl, rfl, rfl, by kernel_rfl⟩
set_option maxRecDepth 100000 in
set_option maxHeartbeats 4000000 in
theorem validD_call {d : Dfa} : CallF Tryz.prog 35 [dfa d] (.p (bool (validD d))) := by
  refine callF_of_code fn35 (Nat.le_of_ble_eq_true rfl) fun w0 M0 hM0 => ?_
  refine xC tb hM0 2 [0] [] rfl ?_
  refine oP rfl (pure_box rfl rfl rfl hM0) ?_
  refine xA tb hM0 7 [1,7] [] rfl ?_
  refine oP rfl (pure_lenm rfl Tryz.underlying28 rfl) ?_
  refine xA tb hM0 11 [1,3,12] [3] rfl ?_
  refine spO 12 rfl ?_ ?_ <;> intro h1' <;> try simp only [dq] at h1'
  refine xA tb hM0 29 [] [] rfl ?_
  refine end_ret rfl ?_; rotate_left
  refine xA tb hM0 5 [1,3,17] [3] rfl ?_
  refine spO 17 rfl ?_ ?_ <;> intro h2' <;> try simp only [dq] at h2'
  refine xA tb hM0 24 [] [] rfl ?_
  refine end_ret rfl ?_; rotate_left
  refine xA tb hM0 4 [1,3,21] [3] rfl ?_
  refine spO 21 rfl ?_ ?_ <;> intro h3' <;> try simp only [dq] at h3'
  refine xA tb hM0 20 [] [] rfl ?_
  refine end_ret rfl ?_; rotate_left
  refine xA tb hM0 4 [1,3,25] [3] rfl ?_
  refine spO 25 rfl ?_ ?_ <;> intro h4' <;> try simp only [dq] at h4'
  refine xA tb hM0 16 [] [] rfl ?_
  refine end_ret rfl ?_; rotate_left
  refine xA tb hM0 2 [1,3,25,27] [3] rfl ?_
  refine oP rfl (pure_lenm rfl Tryz.underlying29 rfl) ?_
  refine xA tb hM0 5 [1,3,31] [3] rfl ?_
  refine spC 31 rfl ?_ ?_ <;> intro h5 <;> try simp only [dq] at h5
  refine xA tb hM0 8 [] [] rfl ?_
  refine end_ret rfl ?_; rotate_left
  refine xA tb hM0 5 [1,3] [3] rfl ?_
  refine code_frz 50 [(1, _), (3, _)] [] hM0 rfl ⟨.inl rfl, .inr ⟨_, _, rfl, rfl, rfl⟩, trivial⟩ trivial ?_
  refine xK tb hM0 3 [1,3,33] [] rfl ?_
  refine oP rfl (pure_lenm rfl Tryz.underlying28 rfl) ?_
  refine xA tb hM0 4 [1,3,33,34,35] [] rfl ?_
  refine lp (fun zm zs => ∃ i : Nat, zm = d.next.length - i ∧ (i ≤ d.next.length) ∧ (∀ j, j < i → okRow d.next.length d.size (d.next.getD j default)) ∧ zs = ⟨50, [(1, .v .mx (dpc d)), (3, .v .pl (.pc [int d.next.length] 0)), (33, .v .mx (rowsA d.next)), (34, .v .pl (int d.next.length)), (35, .v .pl (int i))], []⟩) ?_ ?_
  exact ⟨_, 0, rfl, Nat.zero_le _, fun j hj => absurd hj (Nat.not_lt_zero j), rfl⟩
  rintro zm zs ⟨i, rfl, hL1_0, hL1_1, rfl⟩
  refine xA tb hM0 6 [1,3,33,34,35,36] [] rfl ?_
  refine spC 36 rfl ?_ ?_ <;> intro h6 <;> try simp only [dq] at h6
  refine xA tb hM0 7 [1,3,33,34,35] [] rfl ?_
  refine oP rfl (pure_ix rfl Tryz.underlying28 sz22 rfl rfl (by omega) (fun _ => rfl)) ?_
  refine xA tb hM0 7 [1,3,5,33,34,35,39] [] rfl ?_
  refine oP rfl (pure_lenm rfl Tryz.underlying22 rfl) ?_
  refine xA tb hM0 4 [1,3,5,33,34,35,44] [] rfl ?_
  refine spO 44 rfl ?_ ?_ <;> intro h7' <;> try simp only [dq] at h7'
  refine xA tb hM0 18 [] [] rfl ?_
  refine end_ret rfl ?_; rotate_left
  refine xA tb hM0 1 [1,3,33,34,35,44,45] [] rfl ?_
  refine oP rfl (pure_func rfl rfl) ?_
  refine oP rfl (pure_call rfl rfl rfl (hasI_call (p := pOut d.next.length) (by omega) (fun x hx => valid1_call)) hM0) ?_
  refine xA tb hM0 3 [1,3,33,34,35,48] [] rfl ?_
  refine spC 48 rfl ?_ ?_ <;> intro h8 <;> try simp only [dq] at h8
  refine xA tb hM0 12 [] [] rfl ?_
  refine end_ret rfl ?_; rotate_left
  refine xA tb hM0 5 [1,3,33,34,35] [] rfl ?_
  refine oP rfl (pure_addi rfl rfl rfl (by omega)) ?_
  refine xA tb hM0 2 [1,3,33,34,35] [] rfl ?_
  refine nx ?_
  exact ⟨_, ⟨i + 1, rfl, by omega, upto_step hL1_1 (okRow_any (by omega) (by assumption)), rfl⟩, by omega⟩
  refine xA tb hM0 12 [] [] rfl ?_
  refine end_ret rfl ?_; rotate_left
  all_goals
    first
      | (rw [vd_head (d := d) (by show ¬ (_ ∧ _); omega)]; first | done | rfl)
      | (rw [vd_len (i := i) (by omega) (by omega)]; first | done | rfl)
      | (rw [vd_any (i := i) (by omega) (by assumption)]; first | done | rfl)
      | (rw [vd_all (d := d) (by show (_ ∧ _); omega) (fun j hj => hL1_1 j (by omega))]; first | done | rfl)
theorem fn36 : Fn1 Tryz.prog 36 Tryz.f36.ntmps 2 (Tryz.f36.body.getD .skip) := ⟨Tryz.f36, Tryz.func36, rfl, rfl, rfl, by kernel_rfl⟩
set_option maxRecDepth 100000 in
set_option maxHeartbeats 4000000 in
theorem rvalidD_call {d : Dfa} : CallF Tryz.prog 36 [dfa d] (.p (bool (validD d))) := by
  refine callF_of_code fn36 (Nat.le_of_ble_eq_true rfl) fun w0 M0 hM0 => ?_
  refine xC tb hM0 2 [0] [] rfl ?_
  refine oP rfl (pure_box rfl rfl rfl hM0) ?_
  refine xA tb hM0 7 [1,7] [] rfl ?_
  refine oP rfl (pure_lenm rfl Tryz.underlying28 rfl) ?_
  refine xA tb hM0 10 [1,3,12] [] rfl ?_
  refine spO 12 rfl ?_ ?_ <;> intro h1' <;> try simp only [dq] at h1'
  refine xA tb hM0 29 [] [] rfl ?_
  refine end_ret rfl ?_; rotate_left
  refine xA tb hM0 5 [1,3,17] [] rfl ?_
  refine spO 17 rfl ?_ ?_ <;> intro h2' <;> try simp only [dq] at h2'
  refine xA tb hM0 24 [] [] rfl ?_
  refine end_ret rfl ?_; rotate_left
  refine xA tb hM0 4 [1,3,21] [] rfl ?_
  refine spO 21 rfl ?_ ?_ <;> intro h3' <;> try simp only [dq] at h3'
  refine xA tb hM0 20 [] [] rfl ?_
  refine end_ret rfl ?_; rotate_left
  refine xA tb hM0 4 [1,3,25] [] rfl ?_
  refine spO 25 rfl ?_ ?_ <;> intro h4' <;> try simp only [dq] at h4'
  refine xA tb hM0 16 [] [] rfl ?_
  refine end_ret rfl ?_; rotate_left
  refine xA tb hM0 2 [1,3,25,27] [] rfl ?_
  refine oP rfl (pure_lenm rfl Tryz.underlying29 rfl) ?_
  refine xA tb hM0 5 [1,3,31] [] rfl ?_
  refine spC 31 rfl ?_ ?_ <;> intro h5 <;> try simp only [dq] at h5
  refine xA tb hM0 8 [] [] rfl ?_
  refine end_ret rfl ?_; rotate_left
  refine xA tb hM0 10 [1,3,4] [] rfl ?_
  refine lp (fun zm zs => ∃ i : Nat, zm = d.next.length - i ∧ (i ≤ d.next.length) ∧ (∀ j, j < i → okRow d.next.length d.size (d.next.getD j default)) ∧ zs = ⟨73, [(1, .v .mx (dpc d)), (3, .v .pl (int d.next.length)), (4, .v .pl (int i))], []⟩) ?_ ?_
  exact ⟨_, 0, rfl, Nat.zero_le _, fun j hj => absurd hj (Nat.not_lt_zero j), rfl⟩
  rintro zm zs ⟨i, rfl, hL1_0, hL1_1, rfl⟩
  refine xA tb hM0 8 [1,3,4,34] [] rfl ?_
  refine spC 34 rfl ?_ ?_ <;> intro h6 <;> try simp only [dq] at h6
  refine xA tb hM0 7 [1,3,4] [] rfl ?_
  refine code_draw mixed (by kernel_rfl) _ rfl ?_
  refine dl_pure rfl rfl rfl (pure_field rfl fd31_1 rfl) ?_
  refine dl_pure rfl rfl rfl (pure_load rfl ag28 rfl rfl) ?_
  refine dl_pure rfl rfl rfl (pure_move rfl rfl) ?_
  refine dl_pure rfl rfl rfl (pure_ix rfl Tryz.underlying28 sz22 rfl rfl (by omega) (fun _ => rfl)) ?_
  refine dl_pure rfl rfl rfl (pure_load rfl ag22 rfl rfl) ?_
  refine dl_pure rfl rfl rfl (pure_lenm rfl Tryz.underlying22 rfl) ?_
  refine dl_pure rfl rfl rfl (pure_field rfl fd31_0 rfl) ?_
  refine dl_pure rfl rfl rfl (pure_load rfl ag3 rfl rfl) ?_
  refine dl_pure rfl rfl rfl (pure_neq rfl rfl rfl) ?_
  refine dl_nil ?_
  refine xD tb hM0 1 [1,3,4,45] [] rfl ?_
  refine spC 45 rfl ?_ ?_ <;> intro h7 <;> try simp only [dq] at h7
  refine xA tb hM0 13 [] [] rfl ?_
  refine end_ret rfl ?_; rotate_left
  refine xA tb hM0 9 [1,3,4,5] [] rfl ?_
  refine lp (fun zm zs => ∃ k : Nat, zm = (d.next.getD i default).length - k ∧ (k ≤ (d.next.getD i default).length) ∧ (∀ j, j < k → 0 ≤ (d.next.getD i default).getD j default ∧ (d.next.getD i default).getD j default < d.next.length) ∧ zs = ⟨73, [(1, .v .mx (dpc d)), (3, .v .pl (int d.next.length)), (4, .v .pl (int i)), (5, .v .pl (int k))], []⟩) ?_ ?_
  exact ⟨_, 0, rfl, Nat.zero_le _, fun j hj => absurd hj (Nat.not_lt_zero j), rfl⟩
  rintro zm zs ⟨k, rfl, hL2_0, hL2_1, rfl⟩
  refine xA tb hM0 9 [1,3,4,5,49] [] rfl ?_
  refine spC 49 rfl ?_ ?_ <;> intro h8 <;> try simp only [dq] at h8
  refine xA tb hM0 10 [1,3,4,5,53,54] [] rfl ?_
  refine oP rfl (pure_ix rfl Tryz.underlying28 sz22 rfl rfl (by omega) (fun _ => rfl)) ?_
  refine xA tb hM0 2 [1,3,4,5,56,57] [] rfl ?_
  refine oP rfl (pure_ix rfl Tryz.underlying22 sz3 rfl rfl (by omega) (fun _ => rfl)) ?_
  refine xA tb hM0 3 [1,3,4,5,61] [] rfl ?_
  refine spO 61 rfl ?_ ?_ <;> intro h9' <;> try simp only [dq] at h9'
  refine xA tb hM0 29 [] [] rfl ?_
  refine end_ret rfl ?_; rotate_left
  refine xA tb hM0 3 [1,3,4,5,61,63,64] [] rfl ?_
  refine oP rfl (pure_ix rfl Tryz.underlying28 sz22 rfl rfl (by omega) (fun _ => rfl)) ?_
  refine xA tb hM0 2 [1,3,4,5,61,66,67] [] rfl ?_
  refine oP rfl (pure_ix rfl Tryz.underlying22 sz3 rfl rfl (by omega) (fun _ => rfl)) ?_
  refine xA tb hM0 6 [1,3,4,5,72] [] rfl ?_
  refine spC 72 rfl ?_ ?_ <;> intro h10 <;> try simp only [dq] at h10
  refine xA tb hM0 16 [] [] rfl ?_
  refine end_ret rfl ?_; rotate_left
  refine xA tb hM0 6 [1,3,4,50] [] rfl ?_
  refine oP rfl (pure_addi rfl rfl rfl (by omega)) ?_
  refine xA tb hM0 2 [1,3,4,5] [] rfl ?_
  refine nx ?_
  exact ⟨_, ⟨k + 1, rfl, by omega, upto_step hL2_1 ⟨by omega, by omega⟩, rfl⟩, by omega⟩
  refine xA tb hM0 9 [1,3,35] [] rfl ?_
  refine oP rfl (pure_addi rfl rfl rfl (by omega)) ?_
  refine xA tb hM0 2 [1,3,4] [] rfl ?_
  refine nx ?_
  exact ⟨_, ⟨i + 1, rfl, by omega, upto_step hL1_1 (okRow_of (by omega) (fun j hj => hL2_1 j (by omega))), rfl⟩, by omega⟩
  refine xA tb hM0 12 [] [] rfl ?_
  refine end_ret rfl ?_; rotate_left
  all_goals
    first
      | (rw [vd_head (d := d) (by show ¬ (_ ∧ _); omega)]; first | done | rfl)
      | (rw [vd_all (d := d) (by show (_ ∧ _); omega) (fun j hj => hL1_1 j (by omega))]; first | done | rfl)
      | (rw [vd_len (i := i) (by omega) (by omega)]; first | done | rfl)
      | (rw [vd_at (i := i) (k := k) (by omega) (by omega) (by omega)]; first | done | rfl)
theorem fn89 : Fn1 Tryz.prog 89 Tryz.f89.ntmps 4 (Tryz.f89.body.getD .skip) := ⟨Tryz.f89, Tryz.func89, rfl, rfl, rfl, by kernel_rfl⟩
set_option maxRecDepth 100000 in
set_option maxHeartbeats 1000000 in
theorem keyN_call {n : Int} : CallF Tryz.prog 89 [.sc (.slice none 0 0), int n] (.fresh 5 ((kbI n).map byteI)) := by
  refine callF_of_code fn89 (Nat.le_of_ble_eq_true rfl) fun w0 M0 hM0 => ?_
  refine xC tb hM0 9 [1,5,6] [] rfl ?_
  refine oP rfl (pure_conv rfl Tryz.underlying3 Tryz.underlying5 rfl) ?_
  refine xA tb hM0 1 [1,5,7,8] [] rfl ?_
  refine oP rfl (pure_shr rfl rfl rfl (by omega)) ?_
  refine oP rfl (pure_conv rfl Tryz.underlying3 Tryz.underlying5 rfl) ?_
  refine xA tb hM0 1 [5,7,10,11] [] rfl ?_
  refine oP rfl (pure_shr rfl rfl rfl (by omega)) ?_
  refine oP rfl (pure_conv rfl Tryz.underlying3 Tryz.underlying5 rfl) ?_
  refine xA tb hM0 0 [5,7,10,13] [] rfl ?_
  refine oP rfl (pure_lit rfl Tryz.underlying60 el5 rfl rfl rfl rfl hM0) ?_
  refine oS rfl (step_append_nil rfl rfl rfl rfl Tryz.underlying60 el5 rfl hM0 (src_pl rfl (fun y hy => by simp only [List.mem_cons, List.not_mem_nil, or_false] at hy; rcases hy with rfl | rfl | rfl <;> rfl)) (by simp only [List.length_cons, List.length_nil]; omega) (by simp only [List.length_cons, List.length_nil]; omega)) rfl ?_
  refine xA tb hM0 4 [] [] rfl ?_
  refine end_ret rfl ?_
  rw [← kb_eq]; rfl
set_option maxRecDepth 100000 in
set_option maxHeartbeats 1000000 in
theorem keyO_call {b : List Int} {n : Int} (hb : b.length ≤ 1099511627776) : CallO Tryz.prog 89 [.own 0, .v .pl (int n)] [(0, .arr 5 (b.map byteI))] (.own 0) [(0, .arr 5 ((b ++ kbI n).map byteI))] := by
  refine callO_of_code fn89 (Nat.le_of_ble_eq_true rfl) fun w0 M0 hM0 => ?_
  refine xC tb hM0 9 [1,5,6] [0] rfl ?_
  refine oP rfl (pure_conv rfl Tryz.underlying3 Tryz.underlying5 rfl) ?_
  refine xA tb hM0 1 [1,5,7,8] [0] rfl ?_
  refine oP rfl (pure_shr rfl rfl rfl (by omega)) ?_
  refine oP rfl (pure_conv rfl Tryz.underlying3 Tryz.underlying5 rfl) ?_
  refine xA tb hM0 1 [5,7,10,11] [0] rfl ?_
  refine oP rfl (pure_shr rfl rfl rfl (by omega)) ?_
  refine oP rfl (pure_conv rfl Tryz.underlying3 Tryz.underlying5 rfl) ?_
  refine xA tb hM0 0 [5,7,10,13] [0] rfl ?_
  refine oP rfl (pure_lit rfl Tryz.underlying60 el5 rfl rfl rfl rfl hM0) ?_
  refine oS rfl (step_append rfl rfl rfl rfl Tryz.underlying60 el5 rfl rfl hM0 (src_pl rfl (fun y hy => by simp only [List.mem_cons, List.not_mem_nil, or_false] at hy; rcases hy with rfl | rfl | rfl <;> rfl)) (by simp only [List.length_map, List.length_cons, List.length_nil]; omega) (by simp only [List.length_map, List.length_cons, List.length_nil]; omega)) rfl ?_
  refine xA tb hM0 4 [] [] rfl ?_
  refine endO_ret (o1 := [(0, _)]) rfl ⟨rfl, trivial⟩ ?_
  refine ⟨rfl, ?_⟩
  rw [← kb_eq, List.map_append]; rfl
end Go.Proofs.YtjimlkpfmbachaaGreat

namespace Go.Proofs.YtjimlkpfmbachaaGreat
open Go.Am Go.Wc Go.Wb Go.Wd
set_option linter.unusedVariables false
set_option linter.unusedSimpArgs false
theorem fn17 : Fn2 Tryz.prog 17 Tryz.f17.ntmps 2 3 (Tryz.f17.body.getD .skip) := ⟨Tryz.f17, Tryz.func17, rfl, rfl, rfl, by kernel_rfl⟩
set_option maxRecDepth 100000 in
set_option maxHeartbeats 8000000 in
theorem rleast_call {d : Dfa} : CallF Tryz.prog 17 [dfa d] (.p (.tup [resW (leastZ d), bool (leastZ d).isSome])) := by
  refine callF_of_code2 fn17 (Nat.le_of_ble_eq_true rfl) fun w0 M0 hM0 => ?_
  refine xC tb hM0 2 [0] [] rfl ?_
  refine oP rfl (pure_box rfl rfl rfl hM0) ?_
  refine xA tb hM0 8 [1,11] [] rfl ?_
  refine oP rfl (pure_call rfl rfl rfl (rvalidD_call) hM0) ?_
  refine xA tb hM0 3 [1,13] [] rfl ?_
  refine spC 13 rfl ?_ ?_ <;> intro h1 <;> try simp only [dq] at h1
  refine xA tb hM0 9 [] [] rfl ?_
  refine end2_ret rfl rfl ?_
  rw [leastZ_f (d := d) (by assumption)]; exact ⟨rfl, rfl⟩
  have hd := valid_ok (d := d) (by assumption)
  have hn : d.n = d.next.length := rfl
  have hb := hd.1
  have hkk := kk hd
  refine xA tb hM0 7 [1,15] [] rfl ?_
  refine oP rfl (pure_lenm rfl Tryz.underlying28 rfl) ?_
  refine oS rfl (step_make rfl rfl rfl rfl Tryz.underlying29 el4 ze4 rfl rfl rfl (by omega) (by omega) (by omega) hM0) rfl ?_
  refine xA tb hM0 5 [1,4] [17] rfl ?_
  refine oS rfl (step_lit rfl rfl rfl rfl Tryz.underlying22 el3 rfl rfl rfl rfl hM0) rfl ?_
  refine xA tb hM0 5 [1,4,5] [17,18] rfl ?_
  refine oS rfl (step_lit rfl rfl rfl rfl Tryz.underlying28 el22 rfl rfl rfl rfl hM0) rfl ?_
  refine xA tb hM0 6 [1,4,5,6,20] [17,18,19] rfl ?_
  refine oP rfl (pure_index_own rfl Tryz.underlying29 sz4 rfl rfl rfl (by rw [List.length_replicate]; omega)) ?_
  refine oS rfl (step_store_pel rfl rfl rfl sz4 rfl rfl (rep_get (by omega)) rfl rfl (.inl rfl) rfl (Nat.le_of_ble_eq_true rfl) hM0) rfl ?_
  refine xA tb hM0 9 [1,4,5,6,7] [17,18,19] rfl ?_
  refine lp (fun zm zs => ∃ (T : List (Stp Nat)) (P : List (Pth Nat)) (i : Nat), zm = d.n + 1 - i ∧ (Sr d.stp d.k 0 (List.range d.n) d.fn d.n T P i) ∧ zs = ⟨82, [(1, .v .mx (dpc d)), (4, .own 17), (5, .own 18), (6, .own 19), (7, .v .pl (int i))], [(17, .arr 4 ((mt d.n P).map bool)), (18, .arr 3 (P.map fun p => natI p.1)), (19, .arr 22 (P.map fun p => nats p.2))]⟩) ?_ ?_
  refine ⟨_, [(0, -1, 0)], [(0, [])], 0, rfl, sr_start (List.mem_range.2 (by omega)), ?_⟩
  have e0 : (mt d.n [(0, [])]).map bool = (List.replicate d.n (AV.sc (.bool false))).set 0 (bool true) := by rw [rep_mapB, ← mt_nil, mt_set (l := []) (w := []) (by omega)]; rfl
  rw [e0]; rfl
  rintro zm zs ⟨T, P, i, rfl, hL1_0, rfl⟩
  have hSr := hL1_0
  have hle := hSr.le
  have htl := hSr.tr.len
  have hpl := sk_len hSr.sk
  rw [List.length_range] at hpl
  refine xA tb hM0 5 [1,4,5,6,7,22,23] [17,18,19] rfl ?_
  refine oP rfl (pure_lenm rfl Tryz.underlying22 rfl) ?_
  refine xA tb hM0 3 [1,4,5,6,7,25] [17,18,19] rfl ?_
  refine spC 25 rfl ?_ ?_ <;> intro h2 <;> try simp only [dq] at h2
  refine xA tb hM0 7 [1,4,5,6,7] [17,18,19] rfl ?_
  have hi : i < P.length := by omega
  have hx : (P.getD i default).1 < d.next.length := List.mem_range.1 (hSr.sk.sub _ (el_mem hi))
  refine code_draw mixed (by kernel_rfl) _ rfl ?_
  refine dl_pure rfl rfl rfl (pure_field rfl fd31_2 rfl) ?_
  refine dl_pure rfl rfl rfl (pure_load rfl ag29 rfl rfl) ?_
  refine dl_pure rfl rfl rfl (pure_move rfl rfl) ?_
  refine dl_pure rfl rfl rfl (pure_move rfl rfl) ?_
  refine dl_pure rfl rfl rfl (pure_index_own rfl Tryz.underlying22 sz3 rfl rfl rfl (by rw [List.length_map]; omega)) ?_
  refine dl_pure rfl rfl rfl (pure_load_pel rfl ag3 rfl rfl (mget (by omega)) rfl) ?_
  refine dl_pure rfl rfl rfl (pure_ix rfl Tryz.underlying29 sz4 rfl rfl (by exact ⟨Int.natCast_nonneg _, Int.ofNat_lt.2 (show (P.getD i default).1 < d.fin.length by omega)⟩) (fun _ => rfl)) ?_
  refine dl_pure rfl rfl rfl (pure_load rfl ag4 rfl rfl) ?_
  refine dl_nil ?_
  refine xD tb hM0 1 [1,4,5,6,7,35] [17,18,19] rfl ?_
  refine spC 35 rfl ?_ ?_ <;> intro h3 <;> try simp only [dq] at h3
  have hgd : d.fn (P.getD i default).1 = true := by assumption
  have hres := hSr.hit (N := d.n) (by rw [List.length_range]; exact Nat.le_refl _) hi hgd
  refine xA tb hM0 5 [36,37] [19] rfl ?_
  refine oP rfl (pure_index_own rfl Tryz.underlying28 sz22 rfl rfl rfl (by rw [List.length_map]; omega)) ?_
  refine oP rfl (pure_load_pel rfl ag22 rfl rfl (mget (by omega)) rfl) ?_
  refine xA tb hM0 11 [] [] rfl ?_
  refine end2_ret rfl rfl ?_
  rw [leastZ_t (d := d) (by assumption)]
  have hr2 : leastP d = some (P.getD i default).2 := hres
  rw [hr2]
  exact ⟨rfl, rfl⟩
  have hgd : d.fn (P.getD i default).1 = false := by assumption
  refine xA tb hM0 9 [1,4,5,6,7,8] [17,18,19] rfl ?_
  refine lp (fun zm zs => ∃ (T2 : List (Stp Nat)) (s : Nat), zm = d.k - s ∧ (s ≤ d.k) ∧ (Tr T2 (growW d.stp (P.getD i default) P s)) ∧ zs = ⟨82, [(1, .v .mx (dpc d)), (4, .own 17), (5, .own 18), (6, .own 19), (7, .v .pl (int i)), (8, .v .pl (int s))], [(17, .arr 4 ((mt d.n (growW d.stp (P.getD i default) P s)).map bool)), (18, .arr 3 ((growW d.stp (P.getD i default) P s).map fun p => natI p.1)), (19, .arr 22 ((growW d.stp (P.getD i default) P s).map fun p => nats p.2))]⟩) ?_ ?_
  exact ⟨_, T, 0, rfl, Nat.zero_le _, hSr.tr, rfl⟩
  rintro zm zs ⟨T2, s, rfl, hL2_0, hL2_1, rfl⟩
  have hgr := hSr.grow (stpD_mem hd) hi hL2_0
  have hgl := hgr.2.length_le
  have hgu := hgr.1
  rw [List.length_range] at hgu
  have htl2 := hL2_1.len
  have hPi : (growW d.stp (P.getD i default) P s).getD i default = (P.getD i default) := pre_at hgr.2 hi
  have hwl := tr_len hSr.tr i i (Nat.le_refl _) hi
  refine xA tb hM0 9 [1,4,5,6,7,8,43] [17,18,19] rfl ?_
  refine spC 43 rfl ?_ ?_ <;> intro h4 <;> try simp only [dq] at h4
  refine xA tb hM0 5 [1,4,5,6,7,8] [17,18,19] rfl ?_
  refine ct (fun zs => zs = ⟨82, [(1, .v .mx (dpc d)), (4, .own 17), (5, .own 18), (6, .own 19), (7, .v .pl (int i)), (8, .v .pl (int s)), (9, .v .mx (natI (d.stp (P.getD i default).1 s)))], [(17, .arr 4 ((mt d.n (growW d.stp (P.getD i default) P s)).map bool)), (18, .arr 3 ((growW d.stp (P.getD i default) P s).map fun p => natI p.1)), (19, .arr 22 ((growW d.stp (P.getD i default) P s).map fun p => nats p.2))]⟩) ?_ ?_
  refine code_draw mixed (by kernel_rfl) _ rfl ?_
  refine dl_pure rfl rfl rfl (pure_field rfl fd31_1 rfl) ?_
  refine dl_pure rfl rfl rfl (pure_load rfl ag28 rfl rfl) ?_
  refine dl_pure rfl rfl rfl (pure_move rfl rfl) ?_
  refine dl_pure rfl rfl rfl (pure_move rfl rfl) ?_
  refine dl_pure rfl rfl rfl (pure_index_own rfl Tryz.underlying22 sz3 rfl rfl rfl (by rw [List.length_map]; omega)) ?_
  refine dl_pure rfl rfl rfl (pure_load_pel rfl ag3 rfl rfl (mget (by omega)) rfl) ?_
  refine dl_pure rfl rfl rfl (pure_ix rfl Tryz.underlying28 sz22 rfl rfl (by rw [Int.toNat_natCast, hPi]; exact ⟨Int.natCast_nonneg _, Int.ofNat_lt.2 hx⟩) (fun _ => rfl)) ?_
  refine dpk 82 [(1,_),(4,_),(5,_),(6,_),(7,_),(8,_),(52,_)] [(17,_),(18,_),(19,_)] rfl rfl rfl ?_
  refine dl_pure rfl rfl rfl (pure_load rfl ag22 rfl rfl) ?_
  refine dl_pure rfl rfl rfl (pure_move rfl rfl) ?_
  refine dl_pure rfl rfl rfl (pure_ix rfl Tryz.underlying22 sz3 rfl rfl (by rw [Int.toNat_natCast, hPi]; exact ⟨Int.natCast_nonneg _, Int.ofNat_lt.2 (show s < _ by have := (hd.row hx).1; omega)⟩) (fun _ => rfl)) ?_
  refine dl_pure rfl rfl rfl (pure_load rfl ag3 rfl rfl) ?_
  refine dl_pure rfl rfl rfl (pure_assign rfl rfl) ?_
  refine dl_nil ?_
  refine xD tb hM0 0 [1,4,5,6,7,8,9] [17,18,19] rfl ?_
  refine cx ?_
  have e2 := hd.cellN (i := (P.getD i default).1) (k := s) hx (by omega)
  exact (by simp only [Int.toNat_natCast]; rw [hPi, e2]; first | done | rfl)
  rintro zs ⟨rfl⟩
  have hk : (d.stp (P.getD i default).1 s) < d.n := hd.stp hx (by omega)
  refine xA tb hM0 4 [1,4,5,6,7,8,9,57,58] [17,18,19] rfl ?_
  refine oP rfl (pure_index_own rfl Tryz.underlying29 sz4 rfl rfl rfl (by exact ⟨Int.natCast_nonneg _, by rw [List.length_map, mt_len]; exact Int.ofNat_lt.2 hk⟩)) ?_
  refine oP rfl (pure_load_pel rfl ag4 rfl rfl (mget (by rw [mt_len]; exact hk)) rfl) ?_
  refine xA tb hM0 3 [1,4,5,6,7,8,9,61] [17,18,19] rfl ?_
  refine spC 61 rfl ?_ ?_ <;> intro h5 <;> try simp only [dq] at h5
  have hnew := keys_new (n := d.n) (q := (d.stp (P.getD i default).1 s)) (l := (growW d.stp (P.getD i default) P s)) hk (by assumption)
  refine xA tb hM0 5 [1,4,5,6,7,8,9,62,63] [17,18,19] rfl ?_
  refine oP rfl (pure_index_own rfl Tryz.underlying29 sz4 rfl rfl rfl (by exact ⟨Int.natCast_nonneg _, by rw [List.length_map, mt_len]; exact Int.ofNat_lt.2 hk⟩)) ?_
  refine oS rfl (step_store_pel rfl rfl rfl sz4 rfl rfl (mget (by rw [mt_len]; exact hk)) rfl rfl (.inl rfl) rfl (Nat.le_of_ble_eq_true rfl) hM0) rfl ?_
  refine xA tb hM0 6 [1,4,6,7,8,65,66] [17,18,19] rfl ?_
  refine oP rfl (pure_lit rfl Tryz.underlying22 el3 rfl rfl rfl rfl hM0) ?_
  refine oS rfl (step_append rfl rfl rfl rfl Tryz.underlying22 el3 rfl rfl hM0 (src_pl rfl (one_len (by rfl))) (by rw [List.length_map]; simp only [List.length_cons, List.length_nil]; omega) (by rw [List.length_map]; simp only [List.length_cons, List.length_nil]; omega)) rfl ?_
  refine xA tb hM0 5 [1,4,5,6,7,8] [17,18,19] rfl ?_
  refine oS rfl (step_nil rfl rfl rfl rfl rfl 3 hM0) rfl ?_
  refine xA tb hM0 7 [1,4,5,6,7,8,69,70,71] [10,17,18,19] rfl ?_
  refine oP rfl (pure_index_own rfl Tryz.underlying28 sz22 rfl rfl rfl (by rw [List.length_map]; omega)) ?_
  refine oP rfl (pure_load_pel rfl ag22 rfl rfl (mget (by omega)) rfl) ?_
  refine xA tb hM0 0 [1,4,5,6,7,8,69,73] [10,17,18,19] rfl ?_
  refine oS rfl (step_append rfl rfl rfl rfl Tryz.underlying22 el3 rfl rfl hM0 (src_scm rfl (fun _ => ⟨_, rfl⟩)) (by simp only [List.length_map, List.length_nil, Int.toNat_natCast]; rw [hPi]; omega) (by simp only [List.length_map, List.length_nil, Int.toNat_natCast]; rw [hPi]; omega)) rfl ?_
  refine xA tb hM0 7 [1,4,5,7,8,75,76,77] [10,17,18,19] rfl ?_
  refine oP rfl (pure_lit rfl Tryz.underlying22 el3 rfl rfl rfl rfl hM0) ?_
  refine oS rfl (step_append rfl rfl rfl rfl Tryz.underlying22 el3 rfl rfl hM0 (src_pl rfl (one_len (by rfl))) (by simp only [List.length_map, List.length_append, List.length_cons, List.length_nil, Int.toNat_natCast]; rw [hPi]; omega) (by simp only [List.length_map, List.length_append, List.length_cons, List.length_nil, Int.toNat_natCast]; rw [hPi]; omega)) rfl ?_
  refine ol_frz 82 [(1, _), (4, _), (5, _), (7, _), (8, _), (75, _), (79, _)] [(17, _), (18, _), (19, _)] hM0 rfl ⟨.inl rfl, .inl rfl, .inl rfl, .inl rfl, .inl rfl, .inl rfl, .inr ⟨_, _, rfl, rfl, rfl⟩, trivial⟩ ⟨rfl, rfl, rfl, trivial⟩ ?_
  refine xO tb hM0 0 [1,4,5,7,8,75,79] [17,18,19] rfl ?_
  refine oP rfl (pure_lit rfl Tryz.underlying28 el22 rfl rfl rfl rfl hM0) ?_
  refine oS rfl (step_append rfl rfl rfl rfl Tryz.underlying28 el22 rfl rfl hM0 (src_pl rfl (one_len (by rfl))) (by rw [List.length_map]; simp only [List.length_cons, List.length_nil]; omega) (by rw [List.length_map]; simp only [List.length_cons, List.length_nil]; omega)) rfl ?_
  refine xA tb hM0 6 [1,4,5,6,7,44] [17,18,19] rfl ?_
  refine oP rfl (pure_addi rfl rfl rfl (by omega)) ?_
  refine xA tb hM0 2 [1,4,5,6,7,8] [17,18,19] rfl ?_
  refine nx ?_
  have hsn := hL2_1.snoc (k := (d.stp (P.getD i default).1 s)) (i := i) (s := s) (by omega)
  rw [hPi] at hsn
  refine ⟨_, ⟨T2 ++ [((d.stp (P.getD i default).1 s), (i : Int), (s : Int))], s + 1, rfl, by omega, by rw [growW_new hnew]; exact hsn, ?_⟩, by omega⟩
  rw [growW_new hnew, ← mt_set (n := d.n) hk, List.map_append, List.map_append]
  exact (by simp only [Int.toNat_natCast]; rw [hPi]; simp only [nats, List.map_cons, List.map_nil, List.nil_append, List.map_append]; first | done | rfl)
  have hold := keys_old (n := d.n) (q := (d.stp (P.getD i default).1 s)) (l := (growW d.stp (P.getD i default) P s)) hk (by assumption)
  refine xA tb hM0 6 [1,4,5,6,7,44] [17,18,19] rfl ?_
  refine oP rfl (pure_addi rfl rfl rfl (by omega)) ?_
  refine xA tb hM0 2 [1,4,5,6,7,8] [17,18,19] rfl ?_
  refine nx ?_
  exact ⟨_, ⟨T2, s + 1, rfl, by omega, by rw [growW_old hold]; exact hL2_1, by rw [growW_old hold]; rfl⟩, by omega⟩
  refine xA tb hM0 7 [1,4,5,6,7] [17,18,19] rfl ?_
  obtain rfl : s = d.k := by omega
  refine xA tb hM0 2 [1,4,5,6,26] [17,18,19] rfl ?_
  refine oP rfl (pure_addi rfl rfl rfl (by omega)) ?_
  refine xA tb hM0 2 [1,4,5,6,7] [17,18,19] rfl ?_
  refine nx ?_
  exact ⟨_, ⟨T2, (growW d.stp (P.getD i default) P d.k), i + 1, rfl, hSr.step (stpD_mem hd) (by rw [List.length_range]; exact Nat.le_refl _) hi hgd hL2_1, rfl⟩, by omega⟩
  refine xA tb hM0 13 [] [] rfl ?_
  refine end2_ret rfl rfl ?_
  rw [leastZ_t (d := d) (by assumption)]
  have hr2 : leastP d = none := hSr.miss (by omega)
  rw [hr2]
  exact ⟨rfl, rfl⟩
end Go.Proofs.YtjimlkpfmbachaaGreat

