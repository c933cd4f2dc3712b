/-
  Contracts: keys of expressions.
-/
import Derived.Test.YtjimlkpfmbachaaJ27
import Derived.Test.YtjimlkpfmbachaaJ17
import Derived.Test.YtjimlkpfmbachaaJ18
import Derived.Test.YtjimlkpfmbachaaJ20
import Derived.Test.YtjimlkpfmbachaaJ21
set_option linter.unusedVariables false
set_option linter.unusedSectionVars false
set_option linter.unusedSimpArgs false
namespace Go.Proofs.Ytjimlkpfmbachaa
open Go.Am Go.Wc Go.Wb Go.Wd
set_option linter.unusedVariables false
set_option linter.unusedSimpArgs false
theorem fn50 : Fn1 Try.prog 50 Try.f50.ntmps 4 (Try.f50.body.getD .skip) := ⟨Try.f50, Try.func50, rfl, rfl, rfl, by kernel_rfl⟩
set_option maxRecDepth 100000 in
set_option maxHeartbeats 1000000 in
theorem idxI_call {l : List Int} {p : Int → Bool} {g : FuncId} {caps : List AV} (hl : l.length ≤ 1099511627776) (hf : ∀ x ∈ l, CallF Try.prog g ([int x] ++ caps) (.p (bool (p x)))) : CallF Try.prog 50 [ints l, .clo g caps] (.p (int (idxF p l))) := by
  refine callF_of_code fn50 (Nat.le_of_ble_eq_true rfl) fun w0 M0 hM0 => ?_
  refine xC tb hM0 9 [0,1,6] [] rfl ?_
  refine oP rfl (pure_lenm rfl Try.underlying22 rfl) ?_
  refine xA tb hM0 4 [0,1,7,8] [] rfl ?_
  refine lp (fun zm zs => ∃ k : Nat, zm = l.length - k ∧ (k ≤ l.length) ∧ (∀ j, j < k → p (l.getD j default) = false) ∧ zs = ⟨19, [(0, .v .mx (ints l)), (1, .v .mx (.clo g caps)), (7, .v .pl (int l.length)), (8, .v .pl (int k))], []⟩) ?_ ?_
  exact ⟨_, 0, rfl, Nat.zero_le _, fun j hj => absurd hj (by omega), rfl⟩
  rintro zm zs ⟨k, rfl, hL1_0, hL1_1, rfl⟩
  refine xA tb hM0 6 [0,1,7,8,9] [] rfl ?_
  refine spC 9 rfl ?_ ?_ <;> intro h1 <;> try simp only [dq] at h1
  refine xA tb hM0 16 [0,1,5,7,8,11,12,13] [] rfl ?_
  refine oP rfl (pure_ix rfl Try.underlying22 sz3 rfl rfl (by omega) (fun _ => rfl)) ?_
  refine xA tb hM0 1 [0,1,5,7,8,11,15] [] rfl ?_
  refine oP rfl (pure_call rfl rfl rfl (hf _ (el_mem (by omega))) hM0) ?_
  refine xA tb hM0 2 [0,1,5,7,8,16] [] rfl ?_
  refine spC 16 rfl ?_ ?_ <;> intro h2 <;> try simp only [dq] at h2
  refine xA tb hM0 13 [] [] rfl ?_
  refine end_ret rfl ?_
  rw [← idxF_hit (p := p) (l := l) (k := k) (by omega) hL1_1 (by simp_all)]
  refine xA tb hM0 5 [0,1,7,8] [] rfl ?_
  refine oP rfl (pure_addi rfl rfl rfl (by omega)) ?_
  refine xA tb hM0 2 [0,1,7,8] [] rfl ?_
  refine nx ?_
  exact ⟨_, ⟨k + 1, rfl, by omega, all_step hL1_1 (by simp_all), rfl⟩, by omega⟩
  refine xA tb hM0 12 [] [] rfl ?_
  refine end_ret rfl ?_
  rw [← idxF_none (p := p) (l := l) (fun j hj => hL1_1 j (by omega))]
theorem fn32 : Fn1 Try.prog 32 Try.f32.ntmps 4 (Try.f32.body.getD .skip) := ⟨Try.f32, Try.func32, rfl, rfl, rfl, by kernel_rfl⟩
set_option maxRecDepth 100000 in
set_option maxHeartbeats 1000000 in
theorem hasI_call {l : List Int} {p : Int → Bool} {g : FuncId} {caps : List AV} (hl : l.length ≤ 1099511627776) (hf : ∀ x ∈ l, CallF Try.prog g ([int x] ++ caps) (.p (bool (p x)))) : CallF Try.prog 32 [ints l, .clo g caps] (.p (bool (l.any p))) := by
  refine callF_of_code fn32 (Nat.le_of_ble_eq_true rfl) fun w0 M0 hM0 => ?_
  refine xC tb hM0 9 [5,6] [] rfl ?_
  refine oP rfl (pure_call rfl rfl rfl (idxI_call hl hf) hM0) ?_
  refine xA tb hM0 5 [] [] rfl ?_
  refine end_ret rfl ?_
  rw [idxF_ge]
theorem fn33 : Fn1 Try.prog 33 Try.f33.ntmps 3 (Try.f33.body.getD .skip) := ⟨Try.f33, Try.func33, rfl, rfl, rfl, by kernel_rfl⟩
set_option maxRecDepth 100000 in
set_option maxHeartbeats 1000000 in
theorem valid1_call {n : Nat} {k : Int} : CallF Try.prog 33 ([int k] ++ [.pc [int n] 0]) (.p (bool (pOut n k))) := by
  refine callF_of_code fn33 (Nat.le_of_ble_eq_true rfl) fun w0 M0 hM0 => ?_
  refine xC tb hM0 10 [0,1,6] [] rfl ?_
  refine spO 6 rfl ?_ ?_ <;> intro h1' <;> try simp only [dq] at h1'
  refine xA tb hM0 8 [] [] rfl ?_
  refine end_ret rfl ?_; rotate_left
  refine xA tb hM0 8 [] [] rfl ?_
  refine end_ret rfl ?_; rotate_left
  all_goals
    unfold pOut
    first
      | (rw [decide_eq_true (p := k < 0) (by omega)]; first | done | rfl)
      | (rw [decide_eq_false (p := k < 0) (by omega)]; first | done | rfl)
theorem fn17 : Fn1 Try.prog 17 Try.f17.ntmps 2 (Try.f17.body.getD .skip) := ⟨Try.f17, Try.func17, rfl, rfl, rfl, by kernel_rfl⟩
set_option maxRecDepth 100000 in
set_option maxHeartbeats 4000000 in
theorem validD_call {d : Dfa} : CallF Try.prog 17 [dfa d] (.p (bool (validD d))) := by
  refine callF_of_code fn17 (Nat.le_of_ble_eq_true rfl) fun w0 M0 hM0 => ?_
  refine xC tb hM0 2 [0] [] rfl ?_
  refine oP rfl (pure_box rfl rfl rfl hM0) ?_
  refine xA tb hM0 7 [1,7] [] rfl ?_
  refine oP rfl (pure_lenm rfl Try.underlying23 rfl) ?_
  refine xA tb hM0 11 [1,3,12] [3] rfl ?_
  refine spO 12 rfl ?_ ?_ <;> intro h1' <;> try simp only [dq] at h1'
  refine xA tb hM0 29 [] [] rfl ?_
  refine end_ret rfl ?_; rotate_left
  refine xA tb hM0 5 [1,3,17] [3] rfl ?_
  refine spO 17 rfl ?_ ?_ <;> intro h2' <;> try simp only [dq] at h2'
  refine xA tb hM0 24 [] [] rfl ?_
  refine end_ret rfl ?_; rotate_left
  refine xA tb hM0 4 [1,3,21] [3] rfl ?_
  refine spO 21 rfl ?_ ?_ <;> intro h3' <;> try simp only [dq] at h3'
  refine xA tb hM0 20 [] [] rfl ?_
  refine end_ret rfl ?_; rotate_left
  refine xA tb hM0 4 [1,3,25] [3] rfl ?_
  refine spO 25 rfl ?_ ?_ <;> intro h4' <;> try simp only [dq] at h4'
  refine xA tb hM0 16 [] [] rfl ?_
  refine end_ret rfl ?_; rotate_left
  refine xA tb hM0 2 [1,3,25,27] [3] rfl ?_
  refine oP rfl (pure_lenm rfl Try.underlying24 rfl) ?_
  refine xA tb hM0 5 [1,3,31] [3] rfl ?_
  refine spC 31 rfl ?_ ?_ <;> intro h5 <;> try simp only [dq] at h5
  refine xA tb hM0 8 [] [] rfl ?_
  refine end_ret rfl ?_; rotate_left
  refine xA tb hM0 5 [1,3] [3] rfl ?_
  refine code_frz 50 [(1, _), (3, _)] [] hM0 rfl ⟨.inl rfl, .inr ⟨_, _, rfl, rfl, rfl⟩, trivial⟩ trivial ?_
  refine xK tb hM0 3 [1,3,33] [] rfl ?_
  refine oP rfl (pure_lenm rfl Try.underlying23 rfl) ?_
  refine xA tb hM0 4 [1,3,33,34,35] [] rfl ?_
  refine lp (fun zm zs => ∃ i : Nat, zm = d.next.length - i ∧ (i ≤ d.next.length) ∧ (∀ j, j < i → okRow d.next.length d.size (d.next.getD j default)) ∧ zs = ⟨50, [(1, .v .mx (dpc d)), (3, .v .pl (.pc [int d.next.length] 0)), (33, .v .mx (rowsA d.next)), (34, .v .pl (int d.next.length)), (35, .v .pl (int i))], []⟩) ?_ ?_
  exact ⟨_, 0, rfl, Nat.zero_le _, fun j hj => absurd hj (Nat.not_lt_zero j), rfl⟩
  rintro zm zs ⟨i, rfl, hL1_0, hL1_1, rfl⟩
  refine xA tb hM0 6 [1,3,33,34,35,36] [] rfl ?_
  refine spC 36 rfl ?_ ?_ <;> intro h6 <;> try simp only [dq] at h6
  refine xA tb hM0 7 [1,3,33,34,35] [] rfl ?_
  refine oP rfl (pure_ix rfl Try.underlying23 sz22 rfl rfl (by omega) (fun _ => rfl)) ?_
  refine xA tb hM0 7 [1,3,5,33,34,35,39] [] rfl ?_
  refine oP rfl (pure_lenm rfl Try.underlying22 rfl) ?_
  refine xA tb hM0 4 [1,3,5,33,34,35,44] [] rfl ?_
  refine spO 44 rfl ?_ ?_ <;> intro h7' <;> try simp only [dq] at h7'
  refine xA tb hM0 18 [] [] rfl ?_
  refine end_ret rfl ?_; rotate_left
  refine xA tb hM0 1 [1,3,33,34,35,44,45] [] rfl ?_
  refine oP rfl (pure_func rfl rfl) ?_
  refine oP rfl (pure_call rfl rfl rfl (hasI_call (p := pOut d.next.length) (by omega) (fun x hx => valid1_call)) hM0) ?_
  refine xA tb hM0 3 [1,3,33,34,35,48] [] rfl ?_
  refine spC 48 rfl ?_ ?_ <;> intro h8 <;> try simp only [dq] at h8
  refine xA tb hM0 12 [] [] rfl ?_
  refine end_ret rfl ?_; rotate_left
  refine xA tb hM0 5 [1,3,33,34,35] [] rfl ?_
  refine oP rfl (pure_addi rfl rfl rfl (by omega)) ?_
  refine xA tb hM0 2 [1,3,33,34,35] [] rfl ?_
  refine nx ?_
  exact ⟨_, ⟨i + 1, rfl, by omega, upto_step hL1_1 (okRow_any (by omega) (by assumption)), rfl⟩, by omega⟩
  refine xA tb hM0 12 [] [] rfl ?_
  refine end_ret rfl ?_; rotate_left
  all_goals
    first
      | (rw [vd_head (d := d) (by show ¬ (_ ∧ _); omega)]; first | done | rfl)
      | (rw [vd_len (i := i) (by omega) (by omega)]; first | done | rfl)
      | (rw [vd_any (i := i) (by omega) (by assumption)]; first | done | rfl)
      | (rw [vd_all (d := d) (by show (_ ∧ _); omega) (fun j hj => hL1_1 j (by omega))]; first | done | rfl)
theorem fn22 : Fn1 Try.prog 22 Try.f22.ntmps 2 (Try.f22.body.getD .skip) := ⟨Try.f22, Try.func22, rfl, rfl, rfl, by kernel_rfl⟩
set_option maxRecDepth 100000 in
set_option maxHeartbeats 4000000 in
theorem rvalidD_call {d : Dfa} : CallF Try.prog 22 [dfa d] (.p (bool (validD d))) := by
  refine callF_of_code fn22 (Nat.le_of_ble_eq_true rfl) fun w0 M0 hM0 => ?_
  refine xC tb hM0 2 [0] [] rfl ?_
  refine oP rfl (pure_box rfl rfl rfl hM0) ?_
  refine xA tb hM0 7 [1,7] [] rfl ?_
  refine oP rfl (pure_lenm rfl Try.underlying23 rfl) ?_
  refine xA tb hM0 10 [1,3,12] [] rfl ?_
  refine spO 12 rfl ?_ ?_ <;> intro h1' <;> try simp only [dq] at h1'
  refine xA tb hM0 29 [] [] rfl ?_
  refine end_ret rfl ?_; rotate_left
  refine xA tb hM0 5 [1,3,17] [] rfl ?_
  refine spO 17 rfl ?_ ?_ <;> intro h2' <;> try simp only [dq] at h2'
  refine xA tb hM0 24 [] [] rfl ?_
  refine end_ret rfl ?_; rotate_left
  refine xA tb hM0 4 [1,3,21] [] rfl ?_
  refine spO 21 rfl ?_ ?_ <;> intro h3' <;> try simp only [dq] at h3'
  refine xA tb hM0 20 [] [] rfl ?_
  refine end_ret rfl ?_; rotate_left
  refine xA tb hM0 4 [1,3,25] [] rfl ?_
  refine spO 25 rfl ?_ ?_ <;> intro h4' <;> try simp only [dq] at h4'
  refine xA tb hM0 16 [] [] rfl ?_
  refine end_ret rfl ?_; rotate_left
  refine xA tb hM0 2 [1,3,25,27] [] rfl ?_
  refine oP rfl (pure_lenm rfl Try.underlying24 rfl) ?_
  refine xA tb hM0 5 [1,3,31] [] rfl ?_
  refine spC 31 rfl ?_ ?_ <;> intro h5 <;> try simp only [dq] at h5
  refine xA tb hM0 8 [] [] rfl ?_
  refine end_ret rfl ?_; rotate_left
  refine xA tb hM0 10 [1,3,4] [] rfl ?_
  refine lp (fun zm zs => ∃ i : Nat, zm = d.next.length - i ∧ (i ≤ d.next.length) ∧ (∀ j, j < i → okRow d.next.length d.size (d.next.getD j default)) ∧ zs = ⟨73, [(1, .v .mx (dpc d)), (3, .v .pl (int d.next.length)), (4, .v .pl (int i))], []⟩) ?_ ?_
  exact ⟨_, 0, rfl, Nat.zero_le _, fun j hj => absurd hj (Nat.not_lt_zero j), rfl⟩
  rintro zm zs ⟨i, rfl, hL1_0, hL1_1, rfl⟩
  refine xA tb hM0 8 [1,3,4,34] [] rfl ?_
  refine spC 34 rfl ?_ ?_ <;> intro h6 <;> try simp only [dq] at h6
  refine xA tb hM0 7 [1,3,4] [] rfl ?_
  refine code_draw mixed (by kernel_rfl) _ rfl ?_
  refine dl_pure rfl rfl rfl (pure_field rfl fd26_1 rfl) ?_
  refine dl_pure rfl rfl rfl (pure_load rfl ag23 rfl rfl) ?_
  refine dl_pure rfl rfl rfl (pure_move rfl rfl) ?_
  refine dl_pure rfl rfl rfl (pure_ix rfl Try.underlying23 sz22 rfl rfl (by omega) (fun _ => rfl)) ?_
  refine dl_pure rfl rfl rfl (pure_load rfl ag22 rfl rfl) ?_
  refine dl_pure rfl rfl rfl (pure_lenm rfl Try.underlying22 rfl) ?_
  refine dl_pure rfl rfl rfl (pure_field rfl fd26_0 rfl) ?_
  refine dl_pure rfl rfl rfl (pure_load rfl ag3 rfl rfl) ?_
  refine dl_pure rfl rfl rfl (pure_neq rfl rfl rfl) ?_
  refine dl_nil ?_
  refine xD tb hM0 1 [1,3,4,45] [] rfl ?_
  refine spC 45 rfl ?_ ?_ <;> intro h7 <;> try simp only [dq] at h7
  refine xA tb hM0 13 [] [] rfl ?_
  refine end_ret rfl ?_; rotate_left
  refine xA tb hM0 9 [1,3,4,5] [] rfl ?_
  refine lp (fun zm zs => ∃ k : Nat, zm = (d.next.getD i default).length - k ∧ (k ≤ (d.next.getD i default).length) ∧ (∀ j, j < k → 0 ≤ (d.next.getD i default).getD j default ∧ (d.next.getD i default).getD j default < d.next.length) ∧ zs = ⟨73, [(1, .v .mx (dpc d)), (3, .v .pl (int d.next.length)), (4, .v .pl (int i)), (5, .v .pl (int k))], []⟩) ?_ ?_
  exact ⟨_, 0, rfl, Nat.zero_le _, fun j hj => absurd hj (Nat.not_lt_zero j), rfl⟩
  rintro zm zs ⟨k, rfl, hL2_0, hL2_1, rfl⟩
  refine xA tb hM0 9 [1,3,4,5,49] [] rfl ?_
  refine spC 49 rfl ?_ ?_ <;> intro h8 <;> try simp only [dq] at h8
  refine xA tb hM0 10 [1,3,4,5,53,54] [] rfl ?_
  refine oP rfl (pure_ix rfl Try.underlying23 sz22 rfl rfl (by omega) (fun _ => rfl)) ?_
  refine xA tb hM0 2 [1,3,4,5,56,57] [] rfl ?_
  refine oP rfl (pure_ix rfl Try.underlying22 sz3 rfl rfl (by omega) (fun _ => rfl)) ?_
  refine xA tb hM0 3 [1,3,4,5,61] [] rfl ?_
  refine spO 61 rfl ?_ ?_ <;> intro h9' <;> try simp only [dq] at h9'
  refine xA tb hM0 29 [] [] rfl ?_
  refine end_ret rfl ?_; rotate_left
  refine xA tb hM0 3 [1,3,4,5,61,63,64] [] rfl ?_
  refine oP rfl (pure_ix rfl Try.underlying23 sz22 rfl rfl (by omega) (fun _ => rfl)) ?_
  refine xA tb hM0 2 [1,3,4,5,61,66,67] [] rfl ?_
  refine oP rfl (pure_ix rfl Try.underlying22 sz3 rfl rfl (by omega) (fun _ => rfl)) ?_
  refine xA tb hM0 6 [1,3,4,5,72] [] rfl ?_
  refine spC 72 rfl ?_ ?_ <;> intro h10 <;> try simp only [dq] at h10
  refine xA tb hM0 16 [] [] rfl ?_
  refine end_ret rfl ?_; rotate_left
  refine xA tb hM0 6 [1,3,4,50] [] rfl ?_
  refine oP rfl (pure_addi rfl rfl rfl (by omega)) ?_
  refine xA tb hM0 2 [1,3,4,5] [] rfl ?_
  refine nx ?_
  exact ⟨_, ⟨k + 1, rfl, by omega, upto_step hL2_1 ⟨by omega, by omega⟩, rfl⟩, by omega⟩
  refine xA tb hM0 9 [1,3,35] [] rfl ?_
  refine oP rfl (pure_addi rfl rfl rfl (by omega)) ?_
  refine xA tb hM0 2 [1,3,4] [] rfl ?_
  refine nx ?_
  exact ⟨_, ⟨i + 1, rfl, by omega, upto_step hL1_1 (okRow_of (by omega) (fun j hj => hL2_1 j (by omega))), rfl⟩, by omega⟩
  refine xA tb hM0 12 [] [] rfl ?_
  refine end_ret rfl ?_; rotate_left
  all_goals
    first
      | (rw [vd_head (d := d) (by show ¬ (_ ∧ _); omega)]; first | done | rfl)
      | (rw [vd_all (d := d) (by show (_ ∧ _); omega) (fun j hj => hL1_1 j (by omega))]; first | done | rfl)
      | (rw [vd_len (i := i) (by omega) (by omega)]; first | done | rfl)
      | (rw [vd_at (i := i) (k := k) (by omega) (by omega) (by omega)]; first | done | rfl)
theorem fn34 : Fn1 Try.prog 34 Try.f34.ntmps 4 (Try.f34.body.getD .skip) := ⟨Try.f34, Try.func34, rfl, rfl, rfl, by kernel_rfl⟩
set_option maxRecDepth 100000 in
set_option maxHeartbeats 1000000 in
theorem keyN_call {n : Int} : CallF Try.prog 34 [.sc (.slice none 0 0), int n] (.fresh 5 ((kbI n).map byteI)) := by
  refine callF_of_code fn34 (Nat.le_of_ble_eq_true rfl) fun w0 M0 hM0 => ?_
  refine xC tb hM0 9 [1,5,6] [] rfl ?_
  refine oP rfl (pure_conv rfl Try.underlying3 Try.underlying5 rfl) ?_
  refine xA tb hM0 1 [1,5,7,8] [] rfl ?_
  refine oP rfl (pure_shr rfl rfl rfl (by omega)) ?_
  refine oP rfl (pure_conv rfl Try.underlying3 Try.underlying5 rfl) ?_
  refine xA tb hM0 1 [5,7,10,11] [] rfl ?_
  refine oP rfl (pure_shr rfl rfl rfl (by omega)) ?_
  refine oP rfl (pure_conv rfl Try.underlying3 Try.underlying5 rfl) ?_
  refine xA tb hM0 0 [5,7,10,13] [] rfl ?_
  refine oP rfl (pure_lit rfl Try.underlying62 el5 rfl rfl rfl rfl hM0) ?_
  refine oS rfl (step_append_nil rfl rfl rfl rfl Try.underlying62 el5 rfl hM0 (src_pl rfl (fun y hy => by simp only [List.mem_cons, List.not_mem_nil, or_false] at hy; rcases hy with rfl | rfl | rfl <;> rfl)) (by simp only [List.length_cons, List.length_nil]; omega) (by simp only [List.length_cons, List.length_nil]; omega)) rfl ?_
  refine xA tb hM0 4 [] [] rfl ?_
  refine end_ret rfl ?_
  rw [← kb_eq]; rfl
set_option maxRecDepth 100000 in
set_option maxHeartbeats 1000000 in
theorem keyO_call {b : List Int} {n : Int} (hb : b.length ≤ 1099511627776) : CallO Try.prog 34 [.own 0, .v .pl (int n)] [(0, .arr 5 (b.map byteI))] (.own 0) [(0, .arr 5 ((b ++ kbI n).map byteI))] := by
  refine callO_of_code fn34 (Nat.le_of_ble_eq_true rfl) fun w0 M0 hM0 => ?_
  refine xC tb hM0 9 [1,5,6] [0] rfl ?_
  refine oP rfl (pure_conv rfl Try.underlying3 Try.underlying5 rfl) ?_
  refine xA tb hM0 1 [1,5,7,8] [0] rfl ?_
  refine oP rfl (pure_shr rfl rfl rfl (by omega)) ?_
  refine oP rfl (pure_conv rfl Try.underlying3 Try.underlying5 rfl) ?_
  refine xA tb hM0 1 [5,7,10,11] [0] rfl ?_
  refine oP rfl (pure_shr rfl rfl rfl (by omega)) ?_
  refine oP rfl (pure_conv rfl Try.underlying3 Try.underlying5 rfl) ?_
  refine xA tb hM0 0 [5,7,10,13] [0] rfl ?_
  refine oP rfl (pure_lit rfl Try.underlying62 el5 rfl rfl rfl rfl hM0) ?_
  refine oS rfl (step_append rfl rfl rfl rfl Try.underlying62 el5 rfl rfl hM0 (src_pl rfl (fun y hy => by simp only [List.mem_cons, List.not_mem_nil, or_false] at hy; rcases hy with rfl | rfl | rfl <;> rfl)) (by simp only [List.length_map, List.length_cons, List.length_nil]; omega) (by simp only [List.length_map, List.length_cons, List.length_nil]; omega)) rfl ?_
  refine xA tb hM0 4 [] [] rfl ?_
  refine endO_ret (o1 := [(0, _)]) rfl ⟨rfl, trivial⟩ ?_
  refine ⟨rfl, ?_⟩
  rw [← kb_eq, List.map_append]; rfl
end Go.Proofs.Ytjimlkpfmbachaa

namespace Go.Proofs.Ytjimlkpfmbachaa
open Go.Am Go.Wc Go.Wb Go.Wd
set_option linter.unusedVariables false
set_option linter.unusedSimpArgs false
theorem fn39 : Fn1 Try.prog 39 Try.f39.ntmps 4 (Try.f39.body.getD .skip) := ⟨Try.f39, Try.func39, rfl, rfl, rfl, by kernel_rfl⟩
set_option maxRecDepth 100000 in
set_option maxHeartbeats 8000000 in
theorem textO_call : ∀ (m : Nat) (r : Rx) (b : List Int), r.size ≤ m → b.length + 12 * r.size ≤ 1000000000000 → CallO Try.prog 39 [.own 0, .v .pl (rx r)] [(0, .arr 5 (b.map byteI))] (.own 0) [(0, .arr 5 ((b ++ tx r).map byteI))] := by
  intro m
  induction m with
  | zero => intro r b hr; have := size_pos r; omega
  | succ m ih =>
  intro r b hr hb
  have hkl := kids_len r
  have hsl := syms_len r
  have hse := size_eq r
  rw [rx_eq r]
  refine callO_of_code fn39 (Nat.le_of_ble_eq_true rfl) fun w0 M0 hM0 => ?_
  refine xC tb hM0 2 [0,1] [0] rfl ?_
  refine oP rfl (pure_box rfl rfl rfl hM0) ?_
  refine xA tb hM0 4 [0,3] [0] rfl ?_
  refine code_ren (t := 0) (t' := 100) rfl rfl (fun u d hu => all_lt (by rfl) hu) (fun u d hu hne => all_key (by rfl) hu hne) (fun u d hu hne => all_safe (u := 0) (by rfl) hu hne) ?_
  refine code_drawH (n := 44) (o1 := [(100, .arr 5 ((b).map byteI))]) (om := [(12, .arr 5 ((b ++ kbI r.kind).map byteI))]) (on := [(16, .arr 5 (((b ++ kbI r.kind) ++ kbI (r.syms.length : Int)).map byteI))]) (o2 := [(0, .arr 5 ((((b ++ kbI r.kind) ++ kbI (r.syms.length : Int)) ++ kbI (r.kids.length : Int)).map byteI))]) 3 7 11 12 [(9, .own 100), (10, .v .pl (rpc r)), (11, .v .pl (int r.kind)), (12, .own 12), (13, .v .pl (.pc [int r.kind, ints r.syms, rxs r.kids] 1)), (14, .v .pl (ints r.syms)), (15, .v .pl (int r.syms.length)), (16, .own 16), (17, .v .pl (.pc [int r.kind, ints r.syms, rxs r.kids] 2)), (18, .v .pl (rxs r.kids)), (19, .v .pl (int r.kids.length)), (20, .own 0), (0, .own 100), (3, .v .pl (rpc r))] mixed (by kernel_rfl) (by kernel_rfl) (by kernel_rfl) (by kernel_rfl) rfl (by kernel_rfl) (by kernel_rfl) (by kernel_rfl) rfl (fun t z h => h) rfl ?_ ?_ ?_ ?_ ?_ ?_
  · intro zi zt hzi hzd
    rcases (by omega : zi = 0 ∨ zi = 1 ∨ zi = 2 ∨ zi = 3 ∨ zi = 4 ∨ zi = 5 ∨ zi = 6 ∨ zi = 7 ∨ zi = 8 ∨ zi = 9 ∨ zi = 10 ∨ zi = 11) with rfl | rfl | rfl | rfl | rfl | rfl | rfl | rfl | rfl | rfl | rfl | rfl <;> (injection (show some _ = some zt from hzd) with hzd; subst hzd; exact ⟨_, rfl⟩)
  · intro zi zo zt zd hzi hza hzb hzc hzo hzd hzG ob
    rcases (by omega : zi = 0 ∨ zi = 1 ∨ zi = 2 ∨ zi = 4 ∨ zi = 5 ∨ zi = 6 ∨ zi = 8 ∨ zi = 9 ∨ zi = 10) with rfl | rfl | rfl | rfl | rfl | rfl | rfl | rfl | rfl
    · injection (show some _ = some zo from hzo) with hzo; subst hzo; injection (show some _ = some zt from hzd) with hzd; subst hzd; injection (show some _ = some zd from hzG) with hzG; subst hzG
      exact pure_move rfl rfl
    · injection (show some _ = some zo from hzo) with hzo; subst hzo; injection (show some _ = some zt from hzd) with hzd; subst hzd; injection (show some _ = some zd from hzG) with hzG; subst hzG
      exact pure_field rfl fd47_0 rfl
    · injection (show some _ = some zo from hzo) with hzo; subst hzo; injection (show some _ = some zt from hzd) with hzd; subst hzd; injection (show some _ = some zd from hzG) with hzG; subst hzG
      exact pure_load rfl ag3 rfl rfl
    · injection (show some _ = some zo from hzo) with hzo; subst hzo; injection (show some _ = some zt from hzd) with hzd; subst hzd; injection (show some _ = some zd from hzG) with hzG; subst hzG
      exact pure_field rfl fd47_1 rfl
    · injection (show some _ = some zo from hzo) with hzo; subst hzo; injection (show some _ = some zt from hzd) with hzd; subst hzd; injection (show some _ = some zd from hzG) with hzG; subst hzG
      exact pure_load rfl ag22 rfl rfl
    · injection (show some _ = some zo from hzo) with hzo; subst hzo; injection (show some _ = some zt from hzd) with hzd; subst hzd; injection (show some _ = some zd from hzG) with hzG; subst hzG
      exact pure_lenm rfl Try.underlying22 rfl
    · injection (show some _ = some zo from hzo) with hzo; subst hzo; injection (show some _ = some zt from hzd) with hzd; subst hzd; injection (show some _ = some zd from hzG) with hzG; subst hzG
      exact pure_field rfl fd47_2 rfl
    · injection (show some _ = some zo from hzo) with hzo; subst hzo; injection (show some _ = some zt from hzd) with hzd; subst hzd; injection (show some _ = some zd from hzG) with hzG; subst hzG
      exact pure_load rfl ag45 rfl rfl
    · injection (show some _ = some zo from hzo) with hzo; subst hzo; injection (show some _ = some zt from hzd) with hzd; subst hzd; injection (show some _ = some zd from hzG) with hzG; subst hzG
      exact pure_lenm rfl Try.underlying45 rfl
  · intro zo X hzo hXn hXG hXr
    have hXu : 9 ∈ looks _ zo → X.lookup 9 = some (.own 100) := fun h => (hXr 9 h).trans rfl
    have hXv : 11 ∈ looks _ zo → X.lookup 11 = some (.v .pl (int r.kind)) := fun h => (hXr 11 h).trans rfl
    injection (show some _ = some zo from hzo) with hzo'
    exact step_keyD (f := 34) (ats := #[62, 3]) (t' := 12) (by rw [← hzo']; rfl) (by rw [← hzo']; rfl) rfl hXn (hXu (by rw [← hzo']; decide)) (hXv (by rw [← hzo']; decide)) (keyO_call (b := b) (by omega)) rfl (fun u d hu => all_lt (by rfl) (hXG u d hu)) (fun u d hu hne => all_key (by rfl) (hXG u d hu) hne) hM0
  · intro zo X hzo hXn hXG hXr
    have hXu : 12 ∈ looks _ zo → X.lookup 12 = some (.own 12) := fun h => (hXr 12 h).trans rfl
    have hXv : 15 ∈ looks _ zo → X.lookup 15 = some (.v .pl (int r.syms.length)) := fun h => (hXr 15 h).trans rfl
    injection (show some _ = some zo from hzo) with hzo'
    exact step_keyD (f := 34) (ats := #[62, 3]) (t' := 16) (by rw [← hzo']; rfl) (by rw [← hzo']; rfl) rfl hXn (hXu (by rw [← hzo']; decide)) (hXv (by rw [← hzo']; decide)) (keyO_call (b := b ++ kbI r.kind) (by rw [List.length_append, kbI_len]; omega)) rfl (fun u d hu => all_lt (by rfl) (hXG u d hu)) (fun u d hu hne => all_key (by rfl) (hXG u d hu) hne) hM0
  · intro zo X hzo hXn hXG hXr
    have hXu : 16 ∈ looks _ zo → X.lookup 16 = some (.own 16) := fun h => (hXr 16 h).trans rfl
    have hXv : 19 ∈ looks _ zo → X.lookup 19 = some (.v .pl (int r.kids.length)) := fun h => (hXr 19 h).trans rfl
    injection (show some _ = some zo from hzo) with hzo'
    exact step_keyD (f := 34) (ats := #[62, 3]) (t' := 0) (by rw [← hzo']; rfl) (by rw [← hzo']; rfl) rfl hXn (hXu (by rw [← hzo']; decide)) (hXv (by rw [← hzo']; decide)) (keyO_call (b := (b ++ kbI r.kind) ++ kbI (r.syms.length : Int)) (by rw [List.length_append, List.length_append, kbI_len, kbI_len]; omega)) rfl (fun u d hu => all_lt (by rfl) (hXG u d hu)) (fun u d hu hne => all_key (by rfl) (hXG u d hu) hne) hM0
  refine endL_of (n := 1) (by kernel_rfl) ?_
  refine ex_one (i := 12) (by kernel_rfl) rfl rfl (st_pure rfl rfl (pure_assign rfl rfl)) ?_
  refine ex_end (by kernel_rfl) ?_
  refine xD tb hM0 6 [0,3,22] [0] rfl ?_
  refine oP rfl (pure_lenm rfl Try.underlying22 rfl) ?_
  refine xA tb hM0 4 [0,3,22,23,24] [0] rfl ?_
  refine lp (fun zm zs => ∃ i : Nat, zm = r.syms.length - i ∧ (i ≤ r.syms.length) ∧ zs = ⟨44, [(0, .own 0), (3, .v .pl (rpc r)), (22, .v .pl (ints r.syms)), (23, .v .pl (int r.syms.length)), (24, .v .pl (int i))], [(0, .arr 5 ((b ++ tSyms r i).map byteI))]⟩) ?_ ?_
  refine ⟨_, 0, rfl, Nat.zero_le _, ?_⟩
  rw [tSyms_zero, tHead, ← List.append_assoc, ← List.append_assoc]; rfl
  rintro zm zs ⟨i, rfl, hL1_0, rfl⟩
  refine xA tb hM0 6 [0,3,22,23,24,25] [0] rfl ?_
  refine spC 25 rfl ?_ ?_ <;> intro h1 <;> try simp only [dq] at h1
  refine xA tb hM0 7 [0,3,22,23,24] [0] rfl ?_
  refine oP rfl (pure_ix rfl Try.underlying22 sz3 rfl rfl (by omega) (fun _ => rfl)) ?_
  refine xA tb hM0 7 [3,22,23,24,28,29] [0] rfl ?_
  refine oS rfl (step_callO [(0, 0)] rfl rfl rfl rfl rfl rfl rfl (keyO_call (by rw [List.length_append, tSyms_len (by omega)]; omega)) ⟨.inl rfl, .inl rfl, trivial⟩ ⟨rfl, trivial⟩ rfl rfl rfl rfl rfl hM0) rfl ?_
  refine xA tb hM0 5 [0,3,22,23,24] [0] rfl ?_
  refine oP rfl (pure_addi rfl rfl rfl (by omega)) ?_
  refine xA tb hM0 2 [0,3,22,23,24] [0] rfl ?_
  refine nx ?_
  refine ⟨_, ⟨i + 1, rfl, by omega, ?_⟩, by omega⟩
  rw [tSyms_succ (by omega), ← List.append_assoc]; rfl
  refine xA tb hM0 11 [0,33] [0] rfl ?_
  refine oP rfl (pure_lenm rfl Try.underlying45 rfl) ?_
  refine xA tb hM0 4 [0,33,34,35] [0] rfl ?_
  obtain rfl : i = r.syms.length := by omega
  refine lp (fun zm zs => ∃ j : Nat, zm = r.kids.length - j ∧ (j ≤ r.kids.length) ∧ zs = ⟨44, [(0, .own 0), (33, .v .pl (rxs r.kids)), (34, .v .pl (int r.kids.length)), (35, .v .pl (int j))], [(0, .arr 5 ((b ++ tKids r j).map byteI))]⟩) ?_ ?_
  refine ⟨_, 0, rfl, Nat.zero_le _, ?_⟩
  rw [tKids_zero]; first | done | rfl
  rintro zm zs ⟨j, rfl, hL2_0, rfl⟩
  have hbk : j < r.kids.length → (b ++ tKids r j).length + 12 * (r.kids.getD j default).size ≤ 1000000000000 := fun h => by
    have h1 := txk_len h
    rw [List.length_append]; omega
  refine xA tb hM0 6 [0,33,34,35,36] [0] rfl ?_
  refine spC 36 rfl ?_ ?_ <;> intro h2 <;> try simp only [dq] at h2
  refine xA tb hM0 7 [0,33,34,35] [0] rfl ?_
  refine oP rfl (pure_ix rfl Try.underlying45 sz47 rfl rfl (by omega) (fun _ => rfl)) ?_
  refine xA tb hM0 8 [33,34,35,39,40] [0] rfl ?_
  refine oS rfl (step_callO [(0, 0)] rfl rfl rfl rfl rfl rfl rfl (ih (r.kids.getD j default) (b ++ tKids r j) (by have := kid_lt (r := r) (i := j) (by omega); omega) (hbk (by omega))) ⟨.inl rfl, .inl rfl, trivial⟩ ⟨rfl, trivial⟩ rfl rfl rfl rfl rfl hM0) rfl ?_
  refine xA tb hM0 5 [0,33,34,35] [0] rfl ?_
  refine oP rfl (pure_addi rfl rfl rfl (by omega)) ?_
  refine xA tb hM0 2 [0,33,34,35] [0] rfl ?_
  refine nx ?_
  refine ⟨_, ⟨j + 1, rfl, by omega, ?_⟩, by omega⟩
  rw [tKids_succ (by omega), ← List.append_assoc]; rfl
  refine xA tb hM0 13 [] [] rfl ?_
  refine endO_ret (o1 := [(0, _)]) rfl ⟨rfl, trivial⟩ ?_
  obtain rfl : j = r.kids.length := by omega
  rw [tKids_all]
  exact ⟨rfl, rfl⟩
end Go.Proofs.Ytjimlkpfmbachaa

