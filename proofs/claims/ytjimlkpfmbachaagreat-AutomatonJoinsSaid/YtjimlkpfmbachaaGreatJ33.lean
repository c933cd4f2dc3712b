/-
  Contracts: lists without repetitions.
-/
import Derived.Test.YtjimlkpfmbachaaGreatJ32
import Derived.Test.YtjimlkpfmbachaaGreatJ19
import Derived.Test.YtjimlkpfmbachaaGreatJ21
import Derived.Test.YtjimlkpfmbachaaGreatJ22
import Derived.Test.YtjimlkpfmbachaaGreatJ17
import Derived.Test.YtjimlkpfmbachaaGreatJ20
import Derived.Test.YtjimlkpfmbachaaGreatJ9
set_option linter.unusedVariables false
set_option linter.unusedSectionVars false
set_option linter.unusedSimpArgs false
namespace Go.Proofs.YtjimlkpfmbachaaGreat
open Go.Am Go.Wb
set_option linter.unusedVariables false
set_option linter.unusedSimpArgs false

theorem fn133 : Fn1 Tryz.prog 133 Tryz.f133.ntmps 2 (Tryz.f133.body.getD .skip) := ⟨Tryz.f133, Tryz.func133, rfl, rfl, rfl, by kernel_rfl⟩
theorem isnan_call {x : Int} : CallF Tryz.prog 133 [int x] (.p (bool false)) := by
  refine callF_of_code fn133 (Nat.le_of_ble_eq_true rfl) fun w0 M0 hM0 => ?_
  refine xC tb hM0 14 [] [] rfl ?_
  refine end_ret rfl ?_
  rw [decide_eq_true rfl]; rfl

theorem fn130 : Fn1 Tryz.prog 130 Tryz.f130.ntmps 4 (Tryz.f130.body.getD .skip) := ⟨Tryz.f130, Tryz.func130, rfl, rfl, rfl, by kernel_rfl⟩
theorem cmp_call {x y : Int} : CallF Tryz.prog 130 [int x, int y] (.p (int (orderI x y))) := by
  refine callF_of_code fn130 (Nat.le_of_ble_eq_true rfl) fun w0 M0 hM0 => ?_
  refine xC tb hM0 8 [0,1,7] [] rfl ?_
  refine oP rfl (pure_call rfl rfl rfl (isnan_call) hM0) ?_
  refine xA tb hM0 6 [0,1,5,9] [] rfl ?_
  refine oP rfl (pure_call rfl rfl rfl (isnan_call) hM0) ?_
  refine xA tb hM0 9 [0,1,6,11] [] rfl ?_
  refine spC 11 rfl ?_ ?_ <;> intro h1 <;> try simp only [dq] at h1
  cases h1 --done
  refine xA tb hM0 9 [0,1,13] [] rfl ?_
  refine spC 13 rfl ?_ ?_ <;> intro h2 <;> try simp only [dq] at h2
  cases h2 --done
  refine xA tb hM0 11 [0,1,16] [] rfl ?_
  refine spC 16 rfl ?_ ?_ <;> intro h3 <;> try simp only [dq] at h3
  refine xA tb hM0 8 [] [] rfl ?_
  refine end_ret rfl ?_; rotate_left
  refine xA tb hM0 11 [19] [] rfl ?_
  refine spC 19 rfl ?_ ?_ <;> intro h4 <;> try simp only [dq] at h4
  refine xA tb hM0 8 [] [] rfl ?_
  refine end_ret rfl ?_; rotate_left
  refine xA tb hM0 9 [] [] rfl ?_
  refine end_ret rfl ?_; rotate_left
  all_goals
    unfold orderI; first | rw [if_pos (by assumption)] | (rw [if_neg (by assumption), if_pos (by omega)]; done) | (rw [if_neg (by assumption), if_neg (by omega)]; done)

theorem fn129 : Fn1 Tryz.prog 129 Tryz.f129.ntmps 2 (Tryz.f129.body.getD .skip) := ⟨Tryz.f129, Tryz.func129, rfl, rfl, rfl, by kernel_rfl⟩
set_option maxRecDepth 100000 in
set_option maxHeartbeats 1000000 in
theorem or_call {l : List Int} (hl : l.length ≤ 1099511627776) : CallF Tryz.prog 129 [ints l] (.p (int (orI l))) := by
  refine callF_of_code fn129 (Nat.le_of_ble_eq_true rfl) fun w0 M0 hM0 => ?_
  refine xC tb hM0 14 [3,6] [] rfl ?_
  refine oP rfl (pure_lenm rfl Tryz.underlying22 rfl) ?_
  refine xA tb hM0 4 [3,6,7,8] [] rfl ?_
  refine lp (fun zm zs => ∃ k : Nat, zm = l.length - k ∧ (k ≤ l.length) ∧ (orI l = orI (l.drop k)) ∧ zs = ⟨18, [(3, .v .pl (int 0)), (6, .v .mx (ints l)), (7, .v .pl (int l.length)), (8, .v .pl (int k))], []⟩) ?_ ?_
  exact ⟨_, 0, rfl, Nat.zero_le _, rfl, rfl⟩
  rintro zm zs ⟨k, rfl, hL1_0, hL1_1, rfl⟩
  refine xA tb hM0 6 [3,6,7,8,9] [] rfl ?_
  refine spC 9 rfl ?_ ?_ <;> intro h1 <;> try simp only [dq] at h1
  refine xA tb hM0 7 [3,6,7,8] [] rfl ?_
  refine oP rfl (pure_ix rfl Tryz.underlying22 sz3 rfl rfl (by omega) (fun _ => rfl)) ?_
  refine xA tb hM0 11 [3,5,6,7,8,14] [] rfl ?_
  refine spC 14 rfl ?_ ?_ <;> intro h2 <;> try simp only [dq] at h2
  refine xA tb hM0 13 [] [] rfl ?_
  refine end_ret rfl ?_
  rw [hL1_1, orI_step (by omega), thn_ne (by assumption)]
  refine xA tb hM0 5 [3,6,7,8] [] rfl ?_
  refine oP rfl (pure_addi rfl rfl rfl (by omega)) ?_
  refine xA tb hM0 2 [3,6,7,8] [] rfl ?_
  refine nx ?_
  exact ⟨_, ⟨k + 1, rfl, by omega, by rw [hL1_1, orI_step (by omega), thn_zero (by omega)], rfl⟩, by omega⟩
  refine xA tb hM0 13 [] [] rfl ?_
  refine end_ret rfl ?_
  rw [hL1_1, List.drop_of_length_le (by omega)]; rfl

theorem fn131 : Fn1 Tryz.prog 131 Tryz.f131.ntmps 4 (Tryz.f131.body.getD .skip) := ⟨Tryz.f131, Tryz.func131, rfl, rfl, rfl, by kernel_rfl⟩
set_option maxRecDepth 100000 in
set_option maxHeartbeats 1000000 in
theorem scompare_call {a b : List Int} (ha : a.length ≤ 1099511627776) (hb : b.length ≤ 1099511627776) : CallF Tryz.prog 131 [ints a, ints b] (.p (int (orderL a b))) := by
  refine callF_of_code fn131 (Nat.le_of_ble_eq_true rfl) fun w0 M0 hM0 => ?_
  refine xC tb hM0 9 [0,1,9] [] rfl ?_
  refine oP rfl (pure_lenm rfl Tryz.underlying22 rfl) ?_
  refine xA tb hM0 4 [0,1,9,10,11] [] rfl ?_
  refine lp (fun zm zs => ∃ k : Nat, zm = a.length - k ∧ (k ≤ a.length) ∧ (k ≤ b.length) ∧ (orderL a b = orderL (a.drop k) (b.drop k)) ∧ zs = ⟨36, [(0, .v .mx (ints a)), (1, .v .mx (ints b)), (9, .v .mx (ints a)), (10, .v .pl (int a.length)), (11, .v .pl (int k))], []⟩) ?_ ?_
  exact ⟨_, 0, rfl, Nat.zero_le _, Nat.zero_le _, rfl, rfl⟩
  rintro zm zs ⟨k, rfl, hL1_0, hL1_1, hL1_2, rfl⟩
  refine xA tb hM0 6 [0,1,9,10,11,12] [] rfl ?_
  refine spC 12 rfl ?_ ?_ <;> intro h1 <;> try simp only [dq] at h1
  refine xA tb hM0 8 [0,1,9,10,11,13] [] rfl ?_
  refine oP rfl (pure_ix rfl Tryz.underlying22 sz3 rfl rfl (by omega) (fun _ => rfl)) ?_
  refine xA tb hM0 10 [0,1,5,6,9,10,11,16,17] [] rfl ?_
  refine oP rfl (pure_lenm rfl Tryz.underlying22 rfl) ?_
  refine xA tb hM0 3 [0,1,5,6,9,10,11,19] [] rfl ?_
  refine spC 19 rfl ?_ ?_ <;> intro h2 <;> try simp only [dq] at h2
  refine xA tb hM0 13 [] [] rfl ?_
  refine end_ret rfl ?_; rotate_left
  refine xA tb hM0 7 [0,1,6,9,10,11,20,21] [] rfl ?_
  refine oP rfl (pure_ix rfl Tryz.underlying22 sz3 rfl rfl (by omega) (fun _ => rfl)) ?_
  refine xA tb hM0 8 [0,1,9,10,11,24,25] [] rfl ?_
  refine oP rfl (pure_call rfl rfl rfl (cmp_call) hM0) ?_
  refine xA tb hM0 9 [0,1,8,9,10,11,28] [] rfl ?_
  refine spC 28 rfl ?_ ?_ <;> intro h3 <;> try simp only [dq] at h3
  refine xA tb hM0 13 [] [] rfl ?_
  refine end_ret rfl ?_; rotate_left
  refine xA tb hM0 5 [0,1,9,10,11] [] rfl ?_
  refine oP rfl (pure_addi rfl rfl rfl (by omega)) ?_
  refine xA tb hM0 2 [0,1,9,10,11] [] rfl ?_
  refine nx ?_
  exact ⟨_, ⟨k + 1, rfl, by omega, by omega, by rw [hL1_2, orderL_step (by omega) (by omega), thn_zero (by omega)], rfl⟩, by omega⟩
  refine xA tb hM0 10 [1,31] [] rfl ?_
  refine oP rfl (pure_lenm rfl Tryz.underlying22 rfl) ?_
  refine xA tb hM0 1 [32,33] [] rfl ?_
  refine oP rfl (pure_lenm rfl Tryz.underlying22 rfl) ?_
  refine xA tb hM0 3 [35] [] rfl ?_
  refine spC 35 rfl ?_ ?_ <;> intro h4 <;> try simp only [dq] at h4
  refine xA tb hM0 8 [] [] rfl ?_
  refine end_ret rfl ?_; rotate_left
  refine xA tb hM0 9 [] [] rfl ?_
  refine end_ret rfl ?_; rotate_left
  all_goals
    rw [hL1_2]; first | (rw [orderL_end (by omega) (by omega) (by omega), orderI_gt (by omega)]; done) | (rw [orderL_step (by omega) (by omega), thn_ne (by assumption)]; done) | (rw [orderL_end (by omega) (by omega) (by omega), orderI_lt (by omega)]; done) | (rw [orderL_end (by omega) (by omega) (by omega), show a.length = b.length by omega, orderI_nn])

theorem fn132 : Fn1 Tryz.prog 132 Tryz.f132.ntmps 6 (Tryz.f132.body.getD .skip) := ⟨Tryz.f132, Tryz.func132, rfl, rfl, rfl, by kernel_rfl⟩
set_option maxRecDepth 100000 in
set_option maxHeartbeats 1000000 in
theorem cfun_call {a b : List Rx} {g : FuncId} (ha : a.length ≤ 1099511627776) (hb : b.length ≤ 1099511627776) (hf : ∀ x ∈ a, ∀ y ∈ b, CallF Tryz.prog g [rx x, rx y] (.p (int (cmpR x y)))) :
    CallF Tryz.prog 132 [rxs a, rxs b, .clo g []] (.p (int (cmpRs a b))) := by
  refine callF_of_code fn132 (Nat.le_of_ble_eq_true rfl) fun w0 M0 hM0 => ?_
  refine xC tb hM0 9 [0,1,2,11] [] rfl ?_
  refine oP rfl (pure_lenm rfl Tryz.underlying23 rfl) ?_
  refine xA tb hM0 4 [0,1,2,11,12,13] [] rfl ?_
  refine lp (fun zm zs => ∃ k : Nat, zm = a.length - k ∧ (k ≤ a.length) ∧ (k ≤ b.length) ∧ (cmpRs a b = cmpRs (a.drop k) (b.drop k)) ∧ zs = ⟨39, [(0, .v .mx (rxs a)), (1, .v .mx (rxs b)), (2, .v .mx (.clo g [])), (11, .v .mx (rxs a)), (12, .v .pl (int a.length)), (13, .v .pl (int k))], []⟩) ?_ ?_
  exact ⟨_, 0, rfl, Nat.zero_le _, Nat.zero_le _, rfl, rfl⟩
  rintro zm zs ⟨k, rfl, hL1_0, hL1_1, hL1_2, rfl⟩
  refine xA tb hM0 6 [0,1,2,11,12,13,14] [] rfl ?_
  refine spC 14 rfl ?_ ?_ <;> intro h1 <;> try simp only [dq] at h1
  refine xA tb hM0 8 [0,1,2,11,12,13,15] [] rfl ?_
  refine oP rfl (pure_ix rfl Tryz.underlying23 sz25 rfl rfl (by omega) (fun _ => rfl)) ?_
  refine xA tb hM0 11 [0,1,2,7,8,11,12,13,18,19] [8] rfl ?_
  refine oP rfl (pure_lenm rfl Tryz.underlying23 rfl) ?_
  refine xA tb hM0 3 [0,1,2,7,8,11,12,13,21] [8] rfl ?_
  refine spC 21 rfl ?_ ?_ <;> intro h2 <;> try simp only [dq] at h2
  refine xA tb hM0 13 [] [] rfl ?_
  refine end_ret rfl ?_; rotate_left
  refine xA tb hM0 7 [0,1,2,8,11,12,13,22,23] [8] rfl ?_
  refine oP rfl (pure_ix rfl Tryz.underlying23 sz25 rfl rfl (by omega) (fun _ => rfl)) ?_
  refine xA tb hM0 10 [0,1,2,11,12,13,26,27,28] [] rfl ?_
  refine oP rfl (pure_call rfl rfl rfl (hf _ (kid_mem (by omega)) _ (kid_mem (by omega))) hM0) ?_
  refine xA tb hM0 9 [0,1,2,10,11,12,13,31] [] rfl ?_
  refine spC 31 rfl ?_ ?_ <;> intro h3 <;> try simp only [dq] at h3
  refine xA tb hM0 13 [] [] rfl ?_
  refine end_ret rfl ?_; rotate_left
  refine xA tb hM0 5 [0,1,2,11,12,13] [] rfl ?_
  refine oP rfl (pure_addi rfl rfl rfl (by omega)) ?_
  refine xA tb hM0 2 [0,1,2,11,12,13] [] rfl ?_
  refine nx ?_
  exact ⟨_, ⟨k + 1, rfl, by omega, by omega, by rw [hL1_2, cmpRs_step (by omega) (by omega), thn_zero (by omega)], rfl⟩, by omega⟩
  refine xA tb hM0 10 [1,34] [] rfl ?_
  refine oP rfl (pure_lenm rfl Tryz.underlying23 rfl) ?_
  refine xA tb hM0 1 [35,36] [] rfl ?_
  refine oP rfl (pure_lenm rfl Tryz.underlying23 rfl) ?_
  refine xA tb hM0 3 [38] [] rfl ?_
  refine spC 38 rfl ?_ ?_ <;> intro h4 <;> try simp only [dq] at h4
  refine xA tb hM0 8 [] [] rfl ?_
  refine end_ret rfl ?_; rotate_left
  refine xA tb hM0 9 [] [] rfl ?_
  refine end_ret rfl ?_; rotate_left
  all_goals
    rw [hL1_2]; first | (rw [cmpRs_end (by omega) (by omega) (by omega), orderI_gt (by omega)]; done) | (rw [cmpRs_step (by omega) (by omega), thn_ne (by assumption)]; done) | (rw [cmpRs_end (by omega) (by omega) (by omega), orderI_lt (by omega)]; done) | (rw [cmpRs_end (by omega) (by omega) (by omega), show a.length = b.length by omega, orderI_nn])

theorem fn119 : Fn1 Tryz.prog 119 Tryz.f119.ntmps 4 (Tryz.f119.body.getD .skip) := ⟨Tryz.f119, Tryz.func119, rfl, rfl, rfl, by kernel_rfl⟩
set_option maxRecDepth 100000 in
set_option maxHeartbeats 4000000 in
theorem compare_call : ∀ (m : Nat) (a b : Rx), a.size ≤ m → b.size ≤ 1099511627776 → m ≤ 1099511627776 → CallF Tryz.prog 119 [rx a, rx b] (.p (int (cmpR a b))) := by
  intro m
  induction m with
  | zero => intro a b hr _ _; have := size_pos a; omega
  | succ m ih =>
  intro a b ha hb hm
  have hka := kids_len a
  have hsa := syms_len a
  have hkb := kids_len b
  have hsb := syms_len b
  rw [rx_eq a, rx_eq b]
  refine callF_of_code fn119 (Nat.le_of_ble_eq_true rfl) fun w0 M0 hM0 => ?_
  refine xC tb hM0 2 [0,1] [] rfl ?_
  refine oP rfl (pure_box rfl rfl rfl hM0) ?_
  refine oP rfl (pure_box rfl rfl rfl hM0) ?_
  refine xA tb hM0 4 [2,3] [] rfl ?_
  refine code_draw mixed (by kernel_rfl) _ rfl ?_
  refine dl_pure rfl rfl rfl (pure_field rfl fd25_0 rfl) ?_
  refine dl_pure rfl rfl rfl (pure_load rfl ag3 rfl rfl) ?_
  refine dl_pure rfl rfl rfl (pure_field rfl fd25_0 rfl) ?_
  refine dl_pure rfl rfl rfl (pure_load rfl ag3 rfl rfl) ?_
  refine dl_pure rfl rfl rfl (pure_call rfl rfl rfl (cmp_call) hM0) ?_
  refine dl_pure rfl rfl rfl (pure_field rfl fd25_1 rfl) ?_
  refine dl_pure rfl rfl rfl (pure_load rfl ag22 rfl rfl) ?_
  refine dpk 22 [(2,_),(3,_),(9,_),(11,_)] [] rfl rfl rfl ?_
  refine dl_pure rfl rfl rfl (pure_field rfl fd25_1 rfl) ?_
  refine dl_pure rfl rfl rfl (pure_load rfl ag22 rfl rfl) ?_
  refine dl_pure rfl rfl rfl (pure_call rfl rfl rfl (scompare_call (by omega) (by omega)) hM0) ?_
  refine dl_pure rfl rfl rfl (pure_field rfl fd25_2 rfl) ?_
  refine dl_pure rfl rfl rfl (pure_load rfl ag23 rfl rfl) ?_
  refine dl_pure rfl rfl rfl (pure_field rfl fd25_2 rfl) ?_
  refine dl_pure rfl rfl rfl (pure_load rfl ag23 rfl rfl) ?_
  refine dpk 22 [(9,_),(14,_),(16,_),(18,_)] [] rfl rfl rfl ?_
  refine dl_pure rfl rfl rfl (pure_call rfl rfl rfl (cfun_call (by omega) (by omega) (fun x hx y hy => ih x y (Nat.le_of_lt_succ (Nat.lt_of_lt_of_le (size_kid hx) ha)) (Nat.le_trans (Nat.le_of_lt (size_kid hy)) hb) (by omega))) hM0) ?_
  refine dl_pure rfl rfl rfl (pure_lit rfl Tryz.underlying22 el3 rfl rfl rfl rfl hM0) ?_
  refine dl_pure rfl rfl rfl (pure_call rfl rfl rfl (or_call (l := [orderI a.kind b.kind, orderL a.syms b.syms, cmpRs a.kids b.kids]) (by simp)) hM0) ?_
  refine dl_pure rfl rfl rfl (pure_assign rfl rfl) ?_
  refine dl_nil ?_
  refine xD tb hM0 2 [] [] rfl ?_
  refine end_ret rfl ?_
  rw [cmpR_or]
end Go.Proofs.YtjimlkpfmbachaaGreat

namespace Go.Proofs.YtjimlkpfmbachaaGreat
open Go.Am Go.Wb
set_option linter.unusedVariables false
theorem sortsR : SortsK Tryz.prog 118 3 :=
  ⟨⟨Tryz.f118, Tryz.func118, by kernel_rfl, by kernel_rfl⟩,
   fun p cap fv w => AnyF.slices_SortFunc_none { Tryz.sortR with } p cap fv w,
   fun enc hk h1 cf hO g cb blk off cap d w eg hcmp hH hblk hsz => AnyQ.slices_SortFunc Tryz.sortR 3 (fun w => run_isAggOf ag25 w) (fun w => run_size sz25 w) enc hk h1 cf hO g cb blk off cap d w eg hcmp hH hblk hsz⟩
theorem sortsZ : SortsZ Tryz.prog 116 :=
  ⟨⟨Tryz.f116, Tryz.func116, by kernel_rfl, by kernel_rfl⟩,
   fun p cap w => AnyM.slices_Sort_int_none Tryz.sortZ p cap w,
   fun blk off cap zs w hH hblk hsz => AnyM.slices_Sort_int Tryz.sortZ blk off cap zs w hH hblk hsz⟩
theorem revsR : RevK Tryz.prog 104 3 :=
  ⟨⟨Tryz.f104, Tryz.func104, by kernel_rfl, by kernel_rfl⟩,
   fun p cap w => AnyQ.slices_Reverse_empty Tryz.revR p cap w,
   fun enc hk h1 blk off cap d w hH hsz => AnyQ.slices_Reverse Tryz.revR 3 (fun w => run_isAggOf ag25 w) (fun w => run_size sz25 w) enc hk h1 blk off cap d w hH hsz⟩
end Go.Proofs.YtjimlkpfmbachaaGreat

namespace Go.Proofs.YtjimlkpfmbachaaGreat
open Go.Am Go.Wb
set_option linter.unusedVariables false
set_option linter.unusedSimpArgs false

theorem fn117 : Fn1 Tryz.prog 117 Tryz.f117.ntmps 2 (Tryz.f117.body.getD .skip) := ⟨Tryz.f117, Tryz.func117, rfl, rfl, rfl, by kernel_rfl⟩
set_option maxRecDepth 100000 in
set_option maxHeartbeats 4000000 in
theorem compact_call {l : List Int} (hl : l.length ≤ 1099511627776) : CallO Tryz.prog 117 [.own 0] [(0, .arr 3 (l.map int))] (.own 0) [(0, .arr 3 ((cpt (fun x y => decide (x = y)) l).map int))] := by
  refine callO_of_code fn117 (Nat.le_of_ble_eq_true rfl) fun w0 M0 hM0 => ?_
  refine xC tb hM0 9 [0,6] [0] rfl ?_
  refine oP rfl (pure_lenm rfl Tryz.underlying22 rfl) ?_
  refine xA tb hM0 3 [0,8] [0] rfl ?_
  refine spC 8 rfl ?_ ?_ <;> intro h1 <;> try simp only [dq] at h1
  refine xA tb hM0 9 [] [] rfl ?_
  refine endO_ret (o1 := [(0, _)]) rfl ⟨rfl, trivial⟩ ?_
  rw [cpt_short (by omega)]; exact ⟨rfl, rfl⟩
  refine xA tb hM0 10 [0,3] [0] rfl ?_
  refine lp (fun zm zs => ∃ q : Nat, zm = l.length - q ∧ (1 ≤ q) ∧ (q ≤ l.length) ∧ (cptN (fun x y => decide (x = y)) l q = l.take q) ∧ zs = ⟨61, [(0, .own 0), (3, .v .pl (int q))], [(0, .arr 3 (l.map int))]⟩) ?_ ?_
  exact ⟨_, 1, rfl, Nat.le_refl _, by omega, by rw [cptN_one, take_succ' (by omega)]; rfl, rfl⟩
  rintro zm zs ⟨q, rfl, hL1_0, hL1_1, hL1_2, rfl⟩
  have e0 : ((q : Int) - 1).toNat = q - 1 := by omega
  refine xA tb hM0 5 [0,3,10,11] [0] rfl ?_
  refine oP rfl (pure_lenm rfl Tryz.underlying22 rfl) ?_
  refine xA tb hM0 3 [0,3,13] [0] rfl ?_
  refine spC 13 rfl ?_ ?_ <;> intro h2 <;> try simp only [dq] at h2
  refine xA tb hM0 6 [0,3] [0] rfl ?_
  refine code_draw mixed (by kernel_rfl) _ rfl ?_
  refine dl_pure rfl rfl rfl (pure_move rfl rfl) ?_
  refine dl_pure rfl rfl rfl (pure_move rfl rfl) ?_
  refine dl_pure rfl rfl rfl (pure_index_own rfl Tryz.underlying22 sz3 rfl rfl rfl (by first | (simp only [ll]; omega) | omega)) ?_
  refine dl_pure rfl rfl rfl (pure_load_pel rfl ag3 rfl rfl (mget (by first | (simp only [ll]; omega) | omega)) rfl) ?_
  refine dl_pure rfl rfl rfl (pure_move rfl rfl) ?_
  refine dl_pure rfl rfl rfl (pure_move rfl rfl) ?_
  refine dl_pure rfl rfl rfl (pure_subi rfl rfl rfl (by omega)) ?_
  refine dl_pure rfl rfl rfl (pure_index_own rfl Tryz.underlying22 sz3 rfl rfl rfl (by first | (simp only [ll]; omega) | omega)) ?_
  refine dl_pure rfl rfl rfl (pure_load_pel rfl ag3 rfl rfl (mget (by first | (simp only [ll]; omega) | omega)) rfl) ?_
  refine dl_pure rfl rfl rfl (pure_eql rfl rfl rfl) ?_
  refine dl_nil ?_
  refine xD tb hM0 1 [0,3,25] [0] rfl ?_
  refine spC 25 rfl ?_ ?_ <;> intro h3 <;> try simp only [dq] at h3
  refine xA tb hM0 5 [0,3,26,27] [0] rfl ?_
  refine oP rfl (pure_slice_ownl rfl Tryz.underlying22 sz3 rfl rfl rfl (by first | (simp only [ll]; omega) | omega)) ?_
  refine xA tb hM0 10 [0,3,4,5] [0] rfl ?_
  refine lp (fun zm zs => ∃ (ys : List Int) (k j : Nat), zm = l.length - q - j ∧ (1 ≤ j) ∧ (q + j ≤ l.length) ∧ (ys.length = l.length) ∧ (cptN (fun x y => decide (x = y)) l (q + j) = ys.take k) ∧ (k + 1 ≤ q + j) ∧ (∀ i, q + j ≤ i + 1 → ys.getD i default = l.getD i default) ∧ zs = ⟨61, [(0, .own 0), (3, .v .pl (int k)), (4, .vsl 0 q ((l.map int).length - q)), (5, .v .pl (int j))], [(0, .arr 3 (ys.map int))]⟩) ?_ ?_
  rw [e0] at h3
  exact ⟨_, l, q, 1, rfl, Nat.le_refl _, by omega, rfl, (cptN_dup (by omega) (decide_eq_true h3)).trans hL1_2, Nat.le_refl _, fun i _ => rfl, rfl⟩
  rintro zm zs ⟨ys, k, j, rfl, hL2_0, hL2_1, hL2_2, hL2_3, hL2_4, hL2_5, rfl⟩
  refine xA tb hM0 5 [0,3,4,5,29,30] [0] rfl ?_
  refine oP rfl (pure_len_vsl rfl Tryz.underlying22 rfl rfl) ?_
  refine xA tb hM0 3 [0,3,4,5,32] [0] rfl ?_
  refine spC 32 rfl ?_ ?_ <;> intro h4 <;> try simp only [dq] at h4
  refine xA tb hM0 6 [0,3,4,5] [0] rfl ?_
  refine code_draw mixed (by kernel_rfl) _ rfl ?_
  refine dl_pure rfl rfl rfl (pure_move rfl rfl) ?_
  refine dl_pure rfl rfl rfl (pure_move rfl rfl) ?_
  refine dl_pure rfl rfl rfl (pure_index_vsl rfl Tryz.underlying22 sz3 rfl rfl rfl (by first | (simp only [ll]; omega) | omega)) ?_
  refine dl_pure rfl rfl rfl (pure_load_pel rfl ag3 rfl rfl (mget (by first | (simp only [ll]; omega) | omega)) rfl) ?_
  refine dl_pure rfl rfl rfl (pure_move rfl rfl) ?_
  refine dl_pure rfl rfl rfl (pure_move rfl rfl) ?_
  refine dl_pure rfl rfl rfl (pure_subi rfl rfl rfl (by omega)) ?_
  refine dl_pure rfl rfl rfl (pure_index_vsl rfl Tryz.underlying22 sz3 rfl rfl rfl (by first | (simp only [ll]; omega) | omega)) ?_
  refine dl_pure rfl rfl rfl (pure_load_pel rfl ag3 rfl rfl (mget (by first | (simp only [ll]; omega) | omega)) rfl) ?_
  refine dl_pure rfl rfl rfl (pure_neq rfl rfl rfl) ?_
  refine dl_nil ?_
  refine xD tb hM0 1 [0,3,4,5,44] [0] rfl ?_
  refine spC 44 rfl ?_ ?_ <;> intro h5 <;> try simp only [dq] at h5
  refine xA tb hM0 7 [0,3,4,5,45,46,47,48] [0] rfl ?_
  refine oP rfl (pure_index_vsl rfl Tryz.underlying22 sz3 rfl rfl rfl (by first | (simp only [ll]; omega) | omega)) ?_
  refine oP rfl (pure_load_pel rfl ag3 rfl rfl (mget (by first | (simp only [ll]; omega) | omega)) rfl) ?_
  refine xA tb hM0 0 [0,3,4,5,45,46,50] [0] rfl ?_
  refine oP rfl (pure_index_own rfl Tryz.underlying22 sz3 rfl rfl rfl (by first | (simp only [ll]; omega) | omega)) ?_
  refine oS rfl (step_store_pel rfl rfl rfl sz3 rfl rfl (mget (by first | (simp only [ll]; omega) | omega)) rfl rfl (.inl rfl) rfl (Nat.le_of_ble_eq_true rfl) hM0) rfl ?_
  refine xA tb hM0 4 [0,4,5,52] [0] rfl ?_
  refine oP rfl (pure_addi rfl rfl rfl (by omega)) ?_
  refine xA tb hM0 6 [0,3,4,33] [0] rfl ?_
  refine oP rfl (pure_addi rfl rfl rfl (by omega)) ?_
  refine xA tb hM0 2 [0,3,4,5] [0] rfl ?_
  refine nx ?_
  have e1 : ((j : Int) - 1).toNat = j - 1 := by omega
  rw [e1, hL2_5 (q + j) (by omega), hL2_5 (q + (j - 1)) (by omega)] at h5
  refine ⟨_, ⟨ys.set k (l.getD (q + j) default), k + 1, j + 1, rfl, by omega, by omega, by simpa using hL2_2, cpt_put (by omega) hL2_3 ?_, by omega, fun i hi => ?_, ?_⟩, by omega⟩
  · rw [show q + j - 1 = q + (j - 1) by omega]
    exact decide_eq_false h5
  · rw [getD_set_ne' (by omega)]; exact hL2_5 i (by omega)
  · rw [List.map_set, ← hL2_5 (q + j) (by omega)]; rfl
  refine xA tb hM0 6 [0,3,4,33] [0] rfl ?_
  refine oP rfl (pure_addi rfl rfl rfl (by omega)) ?_
  refine xA tb hM0 2 [0,3,4,5] [0] rfl ?_
  refine nx ?_
  have e1 : ((j : Int) - 1).toNat = j - 1 := by omega
  rw [e1, hL2_5 (q + j) (by omega), hL2_5 (q + (j - 1)) (by omega)] at h5
  refine ⟨_, ⟨ys, k, j + 1, rfl, by omega, by omega, hL2_2, cpt_skip (by omega) hL2_3 ?_, by omega, fun i hi => hL2_5 i (by omega), rfl⟩, by omega⟩
  rw [show q + j - 1 = q + (j - 1) by omega]
  exact decide_eq_true h5
  refine xA tb hM0 10 [0,3,54,55] [0] rfl ?_
  refine oP rfl (pure_slice_ownl rfl Tryz.underlying22 sz3 rfl rfl rfl (by first | (simp only [ll]; omega) | omega)) ?_
  refine oS rfl (step_clear_vsl (zv := int 0) rfl rfl rfl Tryz.underlying22 sz3 rfl rfl ze3 (by decide) rfl rfl hM0) rfl ?_
  refine xA tb hM0 6 [57,58] [0] rfl ?_
  refine oP rfl (pure_slice_own rfl Tryz.underlying22 sz3 rfl rfl rfl (by first | (simp only [ll]; omega) | omega)) ?_
  refine ol_trunc 59 rfl rfl hM0 rfl ?_
  refine xO tb hM0 9 [] [] rfl ?_
  refine endO_ret (o1 := [(0, _)]) rfl ⟨rfl, trivial⟩ ?_
  refine ⟨rfl, ?_⟩
  rw [← cpt_fin (f := int) (k := k) (n := q + j) (by omega) (by omega) hL2_3]; rfl
  refine xA tb hM0 6 [0,14] [0] rfl ?_
  refine oP rfl (pure_addi rfl rfl rfl (by omega)) ?_
  refine xA tb hM0 2 [0,3] [0] rfl ?_
  refine nx ?_
  rw [e0] at h3
  exact ⟨_, ⟨q + 1, rfl, by omega, by omega, cptN_take (by omega) hL1_2 (decide_eq_false h3), rfl⟩, by omega⟩
  refine xA tb hM0 13 [] [] rfl ?_
  refine endO_ret (o1 := [(0, _)]) rfl ⟨rfl, trivial⟩ ?_
  rw [cpt_all (n := q) (by omega) hL1_2]; exact ⟨rfl, rfl⟩

theorem fn120 : Fn1 Tryz.prog 120 Tryz.f120.ntmps 4 (Tryz.f120.body.getD .skip) := ⟨Tryz.f120, Tryz.func120, rfl, rfl, rfl, by kernel_rfl⟩
set_option maxRecDepth 100000 in
set_option maxHeartbeats 4000000 in
theorem compactF_call {l : List Rx} {eq : Rx → Rx → Bool} {g : FuncId} (hl : l.length ≤ 1099511627776) (hf : ∀ x ∈ l, ∀ y ∈ l, CallF Tryz.prog g [rx x, rx y] (.p (bool (eq x y)))) :
    CallO Tryz.prog 120 [.own 0, .v .pl (.clo g [])] [(0, .arr 25 (l.map rx))] (.own 0) [(0, .arr 25 ((cpt eq l).map rx))] := by
  refine callO_of_code fn120 (Nat.le_of_ble_eq_true rfl) fun w0 M0 hM0 => ?_
  refine xC tb hM0 9 [0,1,8] [0] rfl ?_
  refine oP rfl (pure_lenm rfl Tryz.underlying23 rfl) ?_
  refine xA tb hM0 3 [0,1,10] [0] rfl ?_
  refine spC 10 rfl ?_ ?_ <;> intro h1 <;> try simp only [dq] at h1
  refine xA tb hM0 9 [] [] rfl ?_
  refine endO_ret (o1 := [(0, _)]) rfl ⟨rfl, trivial⟩ ?_
  rw [cpt_short (by omega)]; exact ⟨rfl, rfl⟩
  refine xA tb hM0 10 [0,1,5] [0] rfl ?_
  refine lp (fun zm zs => ∃ q : Nat, zm = l.length - q ∧ (1 ≤ q) ∧ (q ≤ l.length) ∧ (cptN (eq) l q = l.take q) ∧ zs = ⟨66, [(0, .own 0), (1, .v .pl (.clo g [])), (5, .v .pl (int q))], [(0, .arr 25 (l.map rx))]⟩) ?_ ?_
  exact ⟨_, 1, rfl, Nat.le_refl _, by omega, by rw [cptN_one, take_succ' (by omega)]; rfl, rfl⟩
  rintro zm zs ⟨q, rfl, hL1_0, hL1_1, hL1_2, rfl⟩
  have e0 : ((q : Int) - 1).toNat = q - 1 := by omega
  refine xA tb hM0 5 [0,1,5,12,13] [0] rfl ?_
  refine oP rfl (pure_lenm rfl Tryz.underlying23 rfl) ?_
  refine xA tb hM0 3 [0,1,5,15] [0] rfl ?_
  refine spC 15 rfl ?_ ?_ <;> intro h2 <;> try simp only [dq] at h2
  refine xA tb hM0 6 [0,1,5] [0] rfl ?_
  refine code_draw mixed (by kernel_rfl) _ rfl ?_
  refine dl_pure rfl rfl rfl (pure_move rfl rfl) ?_
  refine dl_pure rfl rfl rfl (pure_move rfl rfl) ?_
  refine dl_pure rfl rfl rfl (pure_move rfl rfl) ?_
  refine dl_pure rfl rfl rfl (pure_index_own rfl Tryz.underlying23 sz25 rfl rfl rfl (by first | (simp only [ll]; omega) | omega)) ?_
  refine dl_pure rfl rfl rfl (pure_load_pel_agg rfl ag25 sz25 rfl rfl sz25 (mget (by first | (simp only [ll]; omega) | omega))) ?_
  refine dl_pure rfl rfl rfl (pure_move rfl rfl) ?_
  refine dl_pure rfl rfl rfl (pure_move rfl rfl) ?_
  refine dpk 66 [(0,_),(1,_),(5,_),(18,_),(22,_),(23,_),(24,_)] [(0,_)] rfl rfl rfl ?_
  refine dl_pure rfl rfl rfl (pure_subi rfl rfl rfl (by omega)) ?_
  refine dl_pure rfl rfl rfl (pure_index_own rfl Tryz.underlying23 sz25 rfl rfl rfl (by first | (simp only [ll]; omega) | omega)) ?_
  refine dl_pure rfl rfl rfl (pure_load_pel_agg rfl ag25 sz25 rfl rfl sz25 (mget (by first | (simp only [ll]; omega) | omega))) ?_
  refine dl_pure rfl rfl rfl (pure_call rfl rfl rfl (hf _ (kid_mem (by omega)) _ (kid_mem (by omega))) hM0) ?_
  refine dl_nil ?_
  refine xD tb hM0 1 [0,1,5,28] [0] rfl ?_
  refine spC 28 rfl ?_ ?_ <;> intro h3 <;> try simp only [dq] at h3
  refine xA tb hM0 5 [0,1,5,29,30] [0] rfl ?_
  refine oP rfl (pure_slice_ownl rfl Tryz.underlying23 sz25 rfl rfl rfl (by first | (simp only [ll]; omega) | omega)) ?_
  refine xA tb hM0 10 [0,1,5,6,7] [0] rfl ?_
  refine lp (fun zm zs => ∃ (ys : List Rx) (k j : Nat), zm = l.length - q - j ∧ (1 ≤ j) ∧ (q + j ≤ l.length) ∧ (ys.length = l.length) ∧ (cptN (eq) l (q + j) = ys.take k) ∧ (k + 1 ≤ q + j) ∧ (∀ i, q + j ≤ i + 1 → ys.getD i default = l.getD i default) ∧ (∀ x ∈ ys, x ∈ l) ∧ zs = ⟨66, [(0, .own 0), (1, .v .pl (.clo g [])), (5, .v .pl (int k)), (6, .vsl 0 q ((l.map rx).length - q)), (7, .v .pl (int j))], [(0, .arr 25 (ys.map rx))]⟩) ?_ ?_
  rw [e0] at h3
  exact ⟨_, l, q, 1, rfl, Nat.le_refl _, by omega, rfl, (cptN_dup (by omega) (h3)).trans hL1_2, Nat.le_refl _, fun i _ => rfl, fun x hx => hx, rfl⟩
  rintro zm zs ⟨ys, k, j, rfl, hL2_0, hL2_1, hL2_2, hL2_3, hL2_4, hL2_5, hL2_6, rfl⟩
  refine xA tb hM0 5 [0,1,5,6,7,32,33] [0] rfl ?_
  refine oP rfl (pure_len_vsl rfl Tryz.underlying23 rfl rfl) ?_
  refine xA tb hM0 3 [0,1,5,6,7,35] [0] rfl ?_
  refine spC 35 rfl ?_ ?_ <;> intro h4 <;> try simp only [dq] at h4
  refine xA tb hM0 6 [0,1,5,6,7] [0] rfl ?_
  refine code_draw mixed (by kernel_rfl) _ rfl ?_
  refine dl_pure rfl rfl rfl (pure_move rfl rfl) ?_
  refine dl_pure rfl rfl rfl (pure_move rfl rfl) ?_
  refine dl_pure rfl rfl rfl (pure_move rfl rfl) ?_
  refine dl_pure rfl rfl rfl (pure_index_vsl rfl Tryz.underlying23 sz25 rfl rfl rfl (by first | (simp only [ll]; omega) | omega)) ?_
  refine dl_pure rfl rfl rfl (pure_load_pel_agg rfl ag25 sz25 rfl rfl sz25 (mget (by first | (simp only [ll]; omega) | omega))) ?_
  refine dl_pure rfl rfl rfl (pure_move rfl rfl) ?_
  refine dl_pure rfl rfl rfl (pure_move rfl rfl) ?_
  refine dpk 66 [(0,_),(1,_),(5,_),(6,_),(7,_),(38,_),(42,_),(43,_),(44,_)] [(0,_)] rfl rfl rfl ?_
  refine dl_pure rfl rfl rfl (pure_subi rfl rfl rfl (by omega)) ?_
  refine dl_pure rfl rfl rfl (pure_index_vsl rfl Tryz.underlying23 sz25 rfl rfl rfl (by first | (simp only [ll]; omega) | omega)) ?_
  refine dl_pure rfl rfl rfl (pure_load_pel_agg rfl ag25 sz25 rfl rfl sz25 (mget (by first | (simp only [ll]; omega) | omega))) ?_
  refine dl_pure rfl rfl rfl (pure_call rfl rfl rfl (hf _ (hL2_6 _ (kid_mem (by omega))) _ (hL2_6 _ (kid_mem (by omega)))) hM0) ?_
  refine dl_pure rfl rfl rfl (pure_not rfl rfl) ?_
  refine dl_nil ?_
  refine xD tb hM0 1 [0,1,5,6,7,49] [0] rfl ?_
  refine spC 49 rfl ?_ ?_ <;> intro h5 <;> try simp only [dq] at h5
  refine xA tb hM0 7 [0,1,5,6,7,50,51,52,53] [0] rfl ?_
  refine oP rfl (pure_index_vsl rfl Tryz.underlying23 sz25 rfl rfl rfl (by first | (simp only [ll]; omega) | omega)) ?_
  refine oP rfl (pure_load_pel_agg rfl ag25 sz25 rfl rfl sz25 (mget (by first | (simp only [ll]; omega) | omega))) ?_
  refine xA tb hM0 0 [0,1,5,6,7,50,51,55] [0] rfl ?_
  refine oP rfl (pure_index_own rfl Tryz.underlying23 sz25 rfl rfl rfl (by first | (simp only [ll]; omega) | omega)) ?_
  refine oS rfl (step_store_pel rfl rfl rfl sz25 rfl rfl (mget (by first | (simp only [ll]; omega) | omega)) rfl rfl (.inl rfl) rfl (Nat.le_of_ble_eq_true rfl) hM0) rfl ?_
  refine xA tb hM0 4 [0,1,6,7,57] [0] rfl ?_
  refine oP rfl (pure_addi rfl rfl rfl (by omega)) ?_
  refine xA tb hM0 6 [0,1,5,6,36] [0] rfl ?_
  refine oP rfl (pure_addi rfl rfl rfl (by omega)) ?_
  refine xA tb hM0 2 [0,1,5,6,7] [0] rfl ?_
  refine nx ?_
  have e1 : ((j : Int) - 1).toNat = j - 1 := by omega
  rw [e1, hL2_5 (q + j) (by omega), hL2_5 (q + (j - 1)) (by omega)] at h5
  refine ⟨_, ⟨ys.set k (l.getD (q + j) default), k + 1, j + 1, rfl, by omega, by omega, by simpa using hL2_2, cpt_put (by omega) hL2_3 ?_, by omega, fun i hi => ?_, fun x hx => ?_, ?_⟩, by omega⟩
  · rw [show q + j - 1 = q + (j - 1) by omega]
    exact h5
  · rw [getD_set_ne' (by omega)]; exact hL2_5 i (by omega)
  · rcases List.mem_or_eq_of_mem_set hx with hx | rfl
    · exact hL2_6 x hx
    · exact kid_mem (by omega)
  · rw [List.map_set, ← hL2_5 (q + j) (by omega)]; rfl
  refine xA tb hM0 6 [0,1,5,6,36] [0] rfl ?_
  refine oP rfl (pure_addi rfl rfl rfl (by omega)) ?_
  refine xA tb hM0 2 [0,1,5,6,7] [0] rfl ?_
  refine nx ?_
  have e1 : ((j : Int) - 1).toNat = j - 1 := by omega
  rw [e1, hL2_5 (q + j) (by omega), hL2_5 (q + (j - 1)) (by omega)] at h5
  refine ⟨_, ⟨ys, k, j + 1, rfl, by omega, by omega, hL2_2, cpt_skip (by omega) hL2_3 ?_, by omega, fun i hi => hL2_5 i (by omega), hL2_6, rfl⟩, by omega⟩
  rw [show q + j - 1 = q + (j - 1) by omega]
  exact h5
  refine xA tb hM0 10 [0,5,59,60] [0] rfl ?_
  refine oP rfl (pure_slice_ownl rfl Tryz.underlying23 sz25 rfl rfl rfl (by first | (simp only [ll]; omega) | omega)) ?_
  refine oS rfl (step_clear_vsl (zv := .agg [int 0, .sc (.slice none 0 0), .sc (.slice none 0 0)]) rfl rfl rfl Tryz.underlying23 sz25 rfl rfl ze25 (by decide) rfl rfl hM0) rfl ?_
  refine xA tb hM0 6 [62,63] [0] rfl ?_
  refine oP rfl (pure_slice_own rfl Tryz.underlying23 sz25 rfl rfl rfl (by first | (simp only [ll]; omega) | omega)) ?_
  refine ol_trunc 64 rfl rfl hM0 rfl ?_
  refine xO tb hM0 9 [] [] rfl ?_
  refine endO_ret (o1 := [(0, _)]) rfl ⟨rfl, trivial⟩ ?_
  refine ⟨rfl, ?_⟩
  rw [← cpt_fin (f := rx) (k := k) (n := q + j) (by omega) (by omega) hL2_3]; rfl
  refine xA tb hM0 6 [0,1,16] [0] rfl ?_
  refine oP rfl (pure_addi rfl rfl rfl (by omega)) ?_
  refine xA tb hM0 2 [0,1,5] [0] rfl ?_
  refine nx ?_
  rw [e0] at h3
  exact ⟨_, ⟨q + 1, rfl, by omega, by omega, cptN_take (by omega) hL1_2 (h3), rfl⟩, by omega⟩
  refine xA tb hM0 13 [] [] rfl ?_
  refine endO_ret (o1 := [(0, _)]) rfl ⟨rfl, trivial⟩ ?_
  rw [cpt_all (n := q) (by omega) hL1_2]; exact ⟨rfl, rfl⟩
end Go.Proofs.YtjimlkpfmbachaaGreat

