/-
  Contracts: small functions on automata.
-/
import Derived.Test.YtjimlkpfmbachaaGreatJ11
import Derived.Test.YtjimlkpfmbachaaGreatRows
import Derived.Test.YtjimlkpfmbachaaGreatJ12
set_option linter.unusedVariables false
set_option linter.unusedSectionVars false
set_option linter.unusedSimpArgs false
namespace Go.Proofs.YtjimlkpfmbachaaGreat
open Go.Am
theorem mixed : Tryz.prog.follows .mixedOrders = true := by kernel_rfl
theorem sz3 : szOf Tryz.prog 3 = some 1 := by kernel_rfl
theorem ag3 : isAggOf Tryz.prog 3 = some false := by kernel_rfl
theorem el3 : elOk Tryz.prog 3 1 8 = true := by kernel_rfl
theorem zv3 : (Tryz.prog.info? 3).bind (·.zero) = some (.int .i64 0) := by kernel_rfl
theorem ze3 : zeroOf Tryz.prog 3 = some [.int .i64 0] := by kernel_rfl
theorem sz4 : szOf Tryz.prog 4 = some 1 := by kernel_rfl
theorem ag4 : isAggOf Tryz.prog 4 = some false := by kernel_rfl
theorem el4 : elOk Tryz.prog 4 1 1 = true := by kernel_rfl
theorem zv4 : (Tryz.prog.info? 4).bind (·.zero) = some (.bool false) := by kernel_rfl
theorem ze4 : zeroOf Tryz.prog 4 = some [.bool false] := by kernel_rfl
theorem sz5 : szOf Tryz.prog 5 = some 1 := by kernel_rfl
theorem ag5 : isAggOf Tryz.prog 5 = some false := by kernel_rfl
theorem el5 : elOk Tryz.prog 5 1 1 = true := by kernel_rfl
theorem ze5 : zeroOf Tryz.prog 5 = some [.int .u8 0] := by kernel_rfl
theorem sz9 : szOf Tryz.prog 9 = some 1 := by kernel_rfl
theorem ag9 : isAggOf Tryz.prog 9 = some false := by kernel_rfl
theorem el9 : elOk Tryz.prog 9 1 16 = true := by kernel_rfl
theorem sz22 : szOf Tryz.prog 22 = some 1 := by kernel_rfl
theorem ag22 : isAggOf Tryz.prog 22 = some false := by kernel_rfl
theorem el22 : elOk Tryz.prog 22 1 24 = true := by kernel_rfl
theorem sz23 : szOf Tryz.prog 23 = some 1 := by kernel_rfl
theorem ag23 : isAggOf Tryz.prog 23 = some false := by kernel_rfl
theorem sz25 : szOf Tryz.prog 25 = some 3 := by kernel_rfl
theorem ag25 : isAggOf Tryz.prog 25 = some true := by kernel_rfl
theorem el25 : elOk Tryz.prog 25 3 56 = true := by kernel_rfl
theorem ze25 : zeroOf Tryz.prog 25 = some [.int .i64 0, .slice none 0 0, .slice none 0 0] := by kernel_rfl
theorem pl25 : placesOf Tryz.prog 25 = some [(0, 1), (1, 1), (2, 1)] := by kernel_rfl
theorem fd25_0 : fldOf Tryz.prog 25 0 = some (0, 0 + 1, false) := by kernel_rfl
theorem fd25_1 : fldOf Tryz.prog 25 1 = some (1, 0 + 1, false) := by kernel_rfl
theorem fd25_2 : fldOf Tryz.prog 25 2 = some (2, 0 + 1, false) := by kernel_rfl
theorem ag28 : isAggOf Tryz.prog 28 = some false := by kernel_rfl
theorem sz29 : szOf Tryz.prog 29 = some 1 := by kernel_rfl
theorem ag29 : isAggOf Tryz.prog 29 = some false := by kernel_rfl
theorem el29 : elOk Tryz.prog 29 1 24 = true := by kernel_rfl
theorem sz31 : szOf Tryz.prog 31 = some 3 := by kernel_rfl
theorem ag31 : isAggOf Tryz.prog 31 = some true := by kernel_rfl
theorem el31 : elOk Tryz.prog 31 3 56 = true := by kernel_rfl
theorem ze31 : zeroOf Tryz.prog 31 = some [.int .i64 0, .slice none 0 0, .slice none 0 0] := by kernel_rfl
theorem pl31 : placesOf Tryz.prog 31 = some [(0, 1), (1, 1), (2, 1)] := by kernel_rfl
theorem fd31_0 : fldOf Tryz.prog 31 0 = some (0, 0 + 1, false) := by kernel_rfl
theorem fd31_1 : fldOf Tryz.prog 31 1 = some (1, 0 + 1, false) := by kernel_rfl
theorem fd31_2 : fldOf Tryz.prog 31 2 = some (2, 0 + 1, false) := by kernel_rfl
theorem sz45 : szOf Tryz.prog 45 = some 1 := by kernel_rfl
theorem ag45 : isAggOf Tryz.prog 45 = some false := by kernel_rfl
theorem el45 : elOk Tryz.prog 45 1 8 = true := by kernel_rfl
theorem ze45 : zeroOf Tryz.prog 45 = some [.int .u64 0] := by kernel_rfl
theorem sz58 : szOf Tryz.prog 58 = some 1 := by kernel_rfl
theorem ag58 : isAggOf Tryz.prog 58 = some false := by kernel_rfl
theorem sz62 : szOf Tryz.prog 62 = some 1 := by kernel_rfl
theorem ag62 : isAggOf Tryz.prog 62 = some false := by kernel_rfl
theorem sz74 : szOf Tryz.prog 74 = some 2 := by kernel_rfl
theorem ag74 : isAggOf Tryz.prog 74 = some true := by kernel_rfl
theorem el74 : elOk Tryz.prog 74 2 16 = true := by kernel_rfl
theorem ze74 : zeroOf Tryz.prog 74 = some [.int .i64 0, .int .i64 0] := by kernel_rfl
theorem ag81 : isAggOf Tryz.prog 81 = some false := by kernel_rfl
theorem sz83 : szOf Tryz.prog 83 = some 1 := by kernel_rfl
theorem ag83 : isAggOf Tryz.prog 83 = some false := by kernel_rfl
theorem sz84 : szOf Tryz.prog 84 = some 1 := by kernel_rfl
theorem ag84 : isAggOf Tryz.prog 84 = some false := by kernel_rfl
theorem sz103 : szOf Tryz.prog 103 = some 3 := by kernel_rfl
theorem el103 : elOk Tryz.prog 103 3 24 = true := by kernel_rfl
theorem fd103_0 : fldOf Tryz.prog 103 0 = some (0, 0 + 1, false) := by kernel_rfl
theorem fd103_1 : fldOf Tryz.prog 103 1 = some (1, 0 + 1, false) := by kernel_rfl
theorem fd103_2 : fldOf Tryz.prog 103 2 = some (2, 0 + 1, false) := by kernel_rfl
def n8 : List (Option (Nat × Nat × Bool)) := [none, none, none, none, none, none, none, none]
def tab : List (Nat × TyF) := [(2, ⟨some 1, some false, some [.int .i64 0], none, n8⟩),
 (3, ⟨some 1, some false, some [.int .i64 0], none, n8⟩),
 (4, ⟨some 1, some false, some [.bool false], none, n8⟩),
 (5, ⟨some 1, some false, some [.int .u8 0], none, n8⟩),
 (6, ⟨some 1, some false, some [.int .u8 0], none, n8⟩),
 (7, ⟨some 4, some true, some [.int .i64 0, .int .i64 0, .bool false, .int .u8 0], some [(0, 1), (1, 1), (2, 1), (3, 1)], [some (0, 1, false), some (1, 1, false), some (2, 1, false), some (3, 1, false), none, none, none, none]⟩),
 (8, ⟨some 4, some true, some [.int .i64 0, .int .i64 0, .bool false, .int .u8 0], some [(0, 1), (1, 1), (2, 1), (3, 1)], [some (0, 1, false), some (1, 1, false), some (2, 1, false), some (3, 1, false), none, none, none, none]⟩),
 (9, ⟨some 1, some false, some [.string ⟨#[]⟩], none, n8⟩),
 (10, ⟨some 1, some false, some [.string ⟨#[]⟩], none, n8⟩),
 (11, ⟨some 1, some false, some [.string ⟨#[]⟩], none, n8⟩),
 (12, ⟨some 1, some false, some [.int .u64 0], none, n8⟩),
 (13, ⟨some 2, some true, some [.string ⟨#[]⟩, .int .u64 0], some [(0, 1), (1, 1)], [some (0, 1, false), some (1, 1, false), none, none, none, none, none, none]⟩),
 (14, ⟨some 2, some true, some [.string ⟨#[]⟩, .int .u64 0], some [(0, 1), (1, 1)], [some (0, 1, false), some (1, 1, false), none, none, none, none, none, none]⟩),
 (21, ⟨some 1, some false, some [.int .i32 0], none, n8⟩),
 (22, ⟨some 1, some false, some [.slice none 0 0], none, n8⟩),
 (23, ⟨some 1, some false, some [.slice none 0 0], none, n8⟩),
 (24, ⟨some 3, some true, some [.int .i64 0, .slice none 0 0, .slice none 0 0], some [(0, 1), (1, 1), (2, 1)], [some (0, 1, false), some (1, 1, false), some (2, 1, false), none, none, none, none, none]⟩),
 (25, ⟨some 3, some true, some [.int .i64 0, .slice none 0 0, .slice none 0 0], some [(0, 1), (1, 1), (2, 1)], [some (0, 1, false), some (1, 1, false), some (2, 1, false), none, none, none, none, none]⟩),
 (28, ⟨some 1, some false, some [.slice none 0 0], none, n8⟩),
 (29, ⟨some 1, some false, some [.slice none 0 0], none, n8⟩),
 (30, ⟨some 3, some true, some [.int .i64 0, .slice none 0 0, .slice none 0 0], some [(0, 1), (1, 1), (2, 1)], [some (0, 1, false), some (1, 1, false), some (2, 1, false), none, none, none, none, none]⟩),
 (31, ⟨some 3, some true, some [.int .i64 0, .slice none 0 0, .slice none 0 0], some [(0, 1), (1, 1), (2, 1)], [some (0, 1, false), some (1, 1, false), some (2, 1, false), none, none, none, none, none]⟩),
 (32, ⟨some 1, some false, some [.int .i64 0], none, n8⟩),
 (40, ⟨some 1, some false, some [.slice none 0 0], none, n8⟩),
 (45, ⟨some 1, some false, some [.int .u64 0], none, n8⟩),
 (58, ⟨some 1, some false, some [.map none], none, n8⟩),
 (60, ⟨some 1, some false, some [.slice none 0 0], none, n8⟩),
 (73, ⟨some 2, some true, some [.int .i64 0, .int .i64 0], none, n8⟩),
 (74, ⟨some 2, some true, some [.int .i64 0, .int .i64 0], none, n8⟩),
 (79, ⟨some 1, some false, some [.slice none 0 0], none, n8⟩),
 (85, ⟨some 1, some false, some [.slice none 0 0], none, n8⟩),
 (97, ⟨some 1, some false, some [.map none], none, n8⟩),
 (98, ⟨some 1, some false, some [.slice none 0 0], none, n8⟩),
 (101, ⟨some 1, some false, some [.map none], none, n8⟩),
 (102, ⟨some 3, some true, some [.int .i64 0, .int .i64 0, .int .i64 0], some [(0, 1), (1, 1), (2, 1)], [some (0, 1, false), some (1, 1, false), some (2, 1, false), none, none, none, none, none]⟩),
 (103, ⟨some 3, some true, some [.int .i64 0, .int .i64 0, .int .i64 0], some [(0, 1), (1, 1), (2, 1)], [some (0, 1, false), some (1, 1, false), some (2, 1, false), none, none, none, none, none]⟩),
 (104, ⟨some 1, some false, some [.slice none 0 0], none, n8⟩),
 (106, ⟨some 1, some false, some [.map none], none, n8⟩),
 (107, ⟨some 4, some true, some [.int .i64 0, .int .i64 0, .int .i64 0, .int .i64 0], some [(0, 2), (2, 1), (3, 1)], [some (0, 2, true), some (2, 1, false), some (3, 1, false), none, none, none, none, none]⟩),
 (108, ⟨some 4, some true, some [.int .i64 0, .int .i64 0, .int .i64 0, .int .i64 0], some [(0, 2), (2, 1), (3, 1)], [some (0, 2, true), some (2, 1, false), some (3, 1, false), none, none, none, none, none]⟩),
 (109, ⟨some 1, some false, some [.slice none 0 0], none, n8⟩),
 (111, ⟨some 1, some false, some [.map none], none, n8⟩),
 (118, ⟨some 1, some false, some [.int .u64 0], none, n8⟩),
 (122, ⟨some 1, some false, some [.map none], none, n8⟩),
 (123, ⟨some 1, some false, some [.slice none 0 0], none, n8⟩),
 (137, ⟨some 1, some false, some [.int .i64 0], none, n8⟩),
 (144, ⟨some 1, some false, some [.int .u32 0], none, n8⟩),
 (151, ⟨some 1, some false, some [.int .u64 0], none, n8⟩),
 (170, ⟨some 1, some false, some [.int .u8 0], none, n8⟩),
 (171, ⟨some 1, some false, some [.int .u8 0], none, n8⟩),
 (174, ⟨some 1, some false, some [.int .i32 0], none, n8⟩),
 (175, ⟨some 1, some false, some [.int .i32 0], none, n8⟩)]
theorem tb : TabOk Tryz.prog tab := by unfold TabOk; kernel_rfl
end Go.Proofs.YtjimlkpfmbachaaGreat

namespace Go.Proofs.YtjimlkpfmbachaaGreat
open Go.Am Go.Wc
set_option linter.unusedVariables false
set_option linter.unusedSimpArgs false

theorem fn9 : Fn1 Tryz.prog 9 Tryz.f9.ntmps 4 (Tryz.f9.body.getD .skip) := ⟨Tryz.f9, Tryz.func9, rfl, rfl, rfl, by kernel_rfl⟩
set_option maxRecDepth 100000 in
set_option maxHeartbeats 1000000 in
theorem around_call {n most : Int} (hn : I64 n) (hm : 0 < most) : CallF Tryz.prog 9 [int n, int most] (.p (int (around n most))) := by
  obtain ⟨hn1, hn2⟩ := hn
  refine callF_of_code fn9 (Nat.le_of_ble_eq_true rfl) fun w0 M0 hM0 => ?_
  refine xC tb hM0 12 [0,1,6] [] rfl ?_
  refine spC 6 rfl ?_ ?_ <;> intro h1 <;> try simp only [dq] at h1
  refine xA tb hM0 3 [1,7] [] rfl ?_
  refine oP rfl (pure_addi rfl rfl rfl (by omega)) ?_
  refine oP rfl (pure_neg rfl rfl (by omega)) ?_
  refine xA tb hM0 7 [10,11] [] rfl ?_
  refine oP rfl (pure_remn rfl rfl rfl (by omega)) ?_
  refine xA tb hM0 4 [] [] rfl ?_
  refine end_ret rfl ?_; rotate_left
  refine xA tb hM0 7 [10,11] [] rfl ?_
  refine oP rfl (pure_remn rfl rfl rfl (by omega)) ?_
  refine xA tb hM0 4 [] [] rfl ?_
  refine end_ret rfl ?_; rotate_left
  all_goals
    unfold around; first | rw [if_pos (by assumption)] | rw [if_neg (by assumption)]
theorem fn54 : Fn1 Tryz.prog 54 Tryz.f54.ntmps 6 (Tryz.f54.body.getD .skip) := ⟨Tryz.f54, Tryz.func54, rfl, rfl, rfl, by kernel_rfl⟩
set_option maxRecDepth 100000 in
set_option maxHeartbeats 1000000 in
theorem at_call {l : List Int} {i most : Int} (hl : I64s l) (hm : 0 < most) : CallF Tryz.prog 54 [ints l, int i, int most] (.p (int (atL l i most))) := by
  have hl' := hl.get i.toNat
  refine callF_of_code fn54 (Nat.le_of_ble_eq_true rfl) fun w0 M0 hM0 => ?_
  refine xC tb hM0 11 [0,1,2,9] [] rfl ?_
  refine spO 9 rfl ?_ ?_ <;> intro h1' <;> try simp only [dq] at h1'
  refine xA tb hM0 15 [] [] rfl ?_
  refine end_ret rfl ?_; rotate_left
  refine xA tb hM0 2 [0,1,2,9,10,11] [] rfl ?_
  refine oP rfl (pure_lenm rfl Tryz.underlying22 rfl) ?_
  refine xA tb hM0 4 [0,1,2,14] [] rfl ?_
  refine spC 14 rfl ?_ ?_ <;> intro h2 <;> try simp only [dq] at h2
  refine xA tb hM0 8 [] [] rfl ?_
  refine end_ret rfl ?_; rotate_left
  refine xA tb hM0 7 [2,15,16] [] rfl ?_
  refine oP rfl (pure_ix rfl Tryz.underlying22 sz3 rfl rfl (by omega) (fun _ => rfl)) ?_
  refine xA tb hM0 2 [18,19] [] rfl ?_
  refine oP rfl (pure_call rfl rfl rfl (around_call (by assumption) (by omega)) hM0) ?_
  refine xA tb hM0 4 [] [] rfl ?_
  refine end_ret rfl ?_; rotate_left
  all_goals
    unfold atL; first | (rw [if_pos (by omega)]) | (rw [if_neg (by omega)])
end Go.Proofs.YtjimlkpfmbachaaGreat

namespace Go.Proofs.YtjimlkpfmbachaaGreat
open Go.Am Go.Wc Go.Wd
set_option linter.unusedVariables false
set_option linter.unusedSimpArgs false
theorem fn20 : Fn1 Tryz.prog 20 Tryz.f20.ntmps 4 (Tryz.f20.body.getD .skip) := ⟨Tryz.f20, Tryz.func20, rfl, rfl, rfl, by kernel_rfl⟩
set_option maxRecDepth 100000 in
set_option maxHeartbeats 1000000 in
theorem sameInts_call {a b : List Int} (ha : a.length ≤ 4611686018427387904) : CallF Tryz.prog 20 [ints a, ints b] (.p (bool (decide (a = b)))) := by
  refine callF_of_code fn20 (Nat.le_of_ble_eq_true rfl) fun w0 M0 hM0 => ?_
  refine xC tb hM0 9 [0,1,6] [] rfl ?_
  refine oP rfl (pure_lenm rfl Tryz.underlying22 rfl) ?_
  refine xA tb hM0 1 [0,1,7,8] [] rfl ?_
  refine oP rfl (pure_lenm rfl Tryz.underlying22 rfl) ?_
  refine xA tb hM0 3 [0,1,10] [] rfl ?_
  refine spC 10 rfl ?_ ?_ <;> intro h1 <;> try simp only [dq] at h1
  refine xA tb hM0 8 [] [] rfl ?_
  refine end_ret rfl ?_
  rw [decide_eq_false]; intro he; subst he; exact h1 rfl
  refine xA tb hM0 10 [0,1,5] [] rfl ?_
  refine lp (fun zm zs => ∃ k : Nat, zm = a.length - k ∧ (k ≤ a.length) ∧ (a.take k = b.take k) ∧ zs = ⟨26, [(0, .v .mx (ints a)), (1, .v .mx (ints b)), (5, .v .pl (int k))], []⟩) ?_ ?_
  exact ⟨_, 0, rfl, Nat.zero_le _, rfl, rfl⟩
  rintro zm zs ⟨k, rfl, hL1_0, hL1_1, rfl⟩
  refine xA tb hM0 5 [0,1,5,11,12] [] rfl ?_
  refine oP rfl (pure_lenm rfl Tryz.underlying22 rfl) ?_
  refine xA tb hM0 3 [0,1,5,14] [] rfl ?_
  refine spC 14 rfl ?_ ?_ <;> intro h2 <;> try simp only [dq] at h2
  refine xA tb hM0 6 [0,1,5] [] rfl ?_
  refine code_draw mixed (by kernel_rfl) _ rfl ?_
  refine dl_pure rfl rfl rfl (pure_move rfl rfl) ?_
  refine dl_pure rfl rfl rfl (pure_move rfl rfl) ?_
  refine dl_pure rfl rfl rfl (pure_ix rfl Tryz.underlying22 sz3 rfl rfl (by omega) (fun _ => rfl)) ?_
  refine dl_pure rfl rfl rfl (pure_load rfl ag3 rfl rfl) ?_
  refine dl_pure rfl rfl rfl (pure_move rfl rfl) ?_
  refine dl_pure rfl rfl rfl (pure_move rfl rfl) ?_
  refine dl_pure rfl rfl rfl (pure_ix rfl Tryz.underlying22 sz3 rfl rfl (by omega) (fun _ => rfl)) ?_
  refine dl_pure rfl rfl rfl (pure_load rfl ag3 rfl rfl) ?_
  refine dl_pure rfl rfl rfl (pure_neq rfl rfl rfl) ?_
  refine dl_nil ?_
  refine xD tb hM0 1 [0,1,5,25] [] rfl ?_
  refine spC 25 rfl ?_ ?_ <;> intro h3 <;> try simp only [dq] at h3
  refine xA tb hM0 12 [] [] rfl ?_
  refine end_ret rfl ?_
  rw [decide_eq_false]; intro he; subst he; exact h3 rfl
  refine xA tb hM0 6 [0,1,15] [] rfl ?_
  refine oP rfl (pure_addi rfl rfl rfl (by omega)) ?_
  refine xA tb hM0 2 [0,1,5] [] rfl ?_
  refine nx ?_
  exact ⟨_, ⟨k + 1, rfl, by omega, by rw [take_succ (by omega), take_succ (by omega), hL1_1, h3], rfl⟩, by omega⟩
  refine xA tb hM0 12 [] [] rfl ?_
  refine end_ret rfl ?_
  rw [decide_eq_true]; have h := hL1_1; rw [List.take_of_length_le (by omega), List.take_of_length_le (by omega)] at h; exact h
theorem fn12 : Fn1 Tryz.prog 12 Tryz.f12.ntmps 4 (Tryz.f12.body.getD .skip) := ⟨Tryz.f12, Tryz.func12, rfl, rfl, rfl, by kernel_rfl⟩
set_option maxRecDepth 100000 in
set_option maxHeartbeats 4000000 in
theorem dsame_call {a b : Dfa} (hn : a.next.length ≤ 1099511627776) (hf : a.fin.length ≤ 1099511627776) (hl : ∀ r ∈ a.next, r.length ≤ 4611686018427387904) : CallF Tryz.prog 12 [dfa a, dfa b] (.p (bool (decide (a = b)))) := by
  have hla : ∀ i, (a.next.getD i default).length ≤ 4611686018427387904 := fun i => by
    rw [List.getD_eq_getElem?_getD]
    cases hk : a.next[i]? with
    | none => exact Nat.zero_le _
    | some r => exact hl r (List.mem_of_getElem? hk)
  refine callF_of_code fn12 (Nat.le_of_ble_eq_true rfl) fun w0 M0 hM0 => ?_
  refine xC tb hM0 2 [0,1] [] rfl ?_
  refine oP rfl (pure_box rfl rfl rfl hM0) ?_
  refine oP rfl (pure_box rfl rfl rfl hM0) ?_
  refine xA tb hM0 12 [2,3,12] [] rfl ?_
  refine spO 12 rfl ?_ ?_ <;> intro h1' <;> try simp only [dq] at h1'
  ·skip
   refine xA tb hM0 27 [] [] rfl ?_
   refine end_ret rfl ?_
   first
     | (rw [decide_eq_false (p := a = b) (fun e => by subst e; omega)]; first | done | rfl)
     | (rw [same_all (by omega) (by omega) (by omega) (fun j hj => hL1_1 j (by omega)) (fun j hj => hL2_1 j (by omega))]; first | done | rfl)
     | (rw [same_row (i := i)]; simp_all; done)
     | (rw [same_fin (i := i)]; intro q; rw [q] at h7; simp at h7; done)
  ·skip
   refine xA tb hM0 2 [2,3,12,14] [] rfl ?_
   refine oP rfl (pure_lenm rfl Tryz.underlying28 rfl) ?_
   refine xA tb hM0 2 [2,3,12,15,17] [] rfl ?_
   refine oP rfl (pure_lenm rfl Tryz.underlying28 rfl) ?_
   refine xA tb hM0 3 [2,3,21] [] rfl ?_
   refine spO 21 rfl ?_ ?_ <;> intro h2' <;> try simp only [dq] at h2'
   ·skip
    refine xA tb hM0 18 [] [] rfl ?_
    refine end_ret rfl ?_
    first
      | (rw [decide_eq_false (p := a = b) (fun e => by subst e; omega)]; first | done | rfl)
      | (rw [same_all (by omega) (by omega) (by omega) (fun j hj => hL1_1 j (by omega)) (fun j hj => hL2_1 j (by omega))]; first | done | rfl)
      | (rw [same_row (i := i)]; simp_all; done)
      | (rw [same_fin (i := i)]; intro q; rw [q] at h7; simp at h7; done)
   ·skip
    refine xA tb hM0 2 [2,3,21,23] [] rfl ?_
    refine oP rfl (pure_lenm rfl Tryz.underlying29 rfl) ?_
    refine xA tb hM0 2 [2,3,21,24,26] [] rfl ?_
    refine oP rfl (pure_lenm rfl Tryz.underlying29 rfl) ?_
    refine xA tb hM0 4 [2,3,29] [] rfl ?_
    refine spC 29 rfl ?_ ?_ <;> intro h3 <;> try simp only [dq] at h3
    ·skip
     refine xA tb hM0 8 [] [] rfl ?_
     refine end_ret rfl ?_
     first
       | (rw [decide_eq_false (p := a = b) (fun e => by subst e; omega)]; first | done | rfl)
       | (rw [same_all (by omega) (by omega) (by omega) (fun j hj => hL1_1 j (by omega)) (fun j hj => hL2_1 j (by omega))]; first | done | rfl)
       | (rw [same_row (i := i)]; simp_all; done)
       | (rw [same_fin (i := i)]; intro q; rw [q] at h7; simp at h7; done)
    ·skip
     refine xA tb hM0 10 [2,3,5] [] rfl ?_
     refine lp (fun zm zs => ∃ i : Nat, zm = a.next.length - i ∧ (i ≤ a.next.length) ∧ (∀ j, j < i → a.next.getD j default = b.next.getD j default) ∧ zs = ⟨67, [(2, .v .mx (dpc a)), (3, .v .mx (dpc b)), (5, .v .pl (int i))], []⟩) ?_ ?_
     ·exact ⟨_, 0, rfl, Nat.zero_le _, fun j hj => absurd hj (Nat.not_lt_zero j), rfl⟩
     ·rintro zm zs ⟨i, rfl, hL1_0, hL1_1, rfl⟩
      refine xA tb hM0 6 [2,3,5,30,32] [] rfl ?_
      refine oP rfl (pure_lenm rfl Tryz.underlying28 rfl) ?_
      refine xA tb hM0 3 [2,3,5,34] [] rfl ?_
      refine spC 34 rfl ?_ ?_ <;> intro h4 <;> try simp only [dq] at h4
      ·skip
       refine xA tb hM0 6 [2,3,5] [] rfl ?_
       refine code_draw mixed (by kernel_rfl) _ rfl ?_
       refine dl_pure rfl rfl rfl (pure_field rfl fd31_1 rfl) ?_
       refine dl_pure rfl rfl rfl (pure_load rfl ag28 rfl rfl) ?_
       refine dl_pure rfl rfl rfl (pure_move rfl rfl) ?_
       refine dl_pure rfl rfl rfl (pure_ix rfl Tryz.underlying28 sz22 rfl rfl (by omega) (fun _ => rfl)) ?_
       refine dl_pure rfl rfl rfl (pure_load rfl ag22 rfl rfl) ?_
       refine dl_pure rfl rfl rfl (pure_field rfl fd31_1 rfl) ?_
       refine dl_pure rfl rfl rfl (pure_load rfl ag28 rfl rfl) ?_
       refine dpk 67 [(2,_),(3,_),(5,_),(41,_),(43,_)] [] rfl rfl rfl ?_
       refine dl_pure rfl rfl rfl (pure_move rfl rfl) ?_
       refine dl_pure rfl rfl rfl (pure_ix rfl Tryz.underlying28 sz22 rfl rfl (by omega) (fun _ => rfl)) ?_
       refine dl_pure rfl rfl rfl (pure_load rfl ag22 rfl rfl) ?_
       refine dl_pure rfl rfl rfl (pure_call rfl rfl rfl (sameInts_call (hla _)) hM0) ?_
       refine dl_pure rfl rfl rfl (pure_not rfl rfl) ?_
       refine dl_nil ?_
       refine xD tb hM0 1 [2,3,5,48] [] rfl ?_
       refine spC 48 rfl ?_ ?_ <;> intro h5 <;> try simp only [dq] at h5
       ·skip
        refine xA tb hM0 12 [] [] rfl ?_
        refine end_ret rfl ?_
        first
          | (rw [decide_eq_false (p := a = b) (fun e => by subst e; omega)]; first | done | rfl)
          | (rw [same_all (by omega) (by omega) (by omega) (fun j hj => hL1_1 j (by omega)) (fun j hj => hL2_1 j (by omega))]; first | done | rfl)
          | (rw [same_row (i := i)]; simp_all; done)
          | (rw [same_fin (i := i)]; intro q; rw [q] at h7; simp at h7; done)
       ·skip
        refine xA tb hM0 6 [2,3,35] [] rfl ?_
        refine oP rfl (pure_addi rfl rfl rfl (by omega)) ?_
        refine xA tb hM0 2 [2,3,5] [] rfl ?_
        refine nx ?_
        exact ⟨_, ⟨i + 1, rfl, by omega, upto_step hL1_1 (by simp_all), rfl⟩, by omega⟩
      ·skip
       refine xA tb hM0 13 [2,3,6] [] rfl ?_
       refine lp (fun zm zs => ∃ i : Nat, zm = a.fin.length - i ∧ (i ≤ a.fin.length) ∧ (∀ j, j < i → a.fin.getD j default = b.fin.getD j default) ∧ zs = ⟨67, [(2, .v .mx (dpc a)), (3, .v .mx (dpc b)), (6, .v .pl (int i))], []⟩) ?_ ?_
       ·exact ⟨_, 0, rfl, Nat.zero_le _, fun j hj => absurd hj (Nat.not_lt_zero j), rfl⟩
       ·rintro zm zs ⟨i, rfl, hL2_0, hL2_1, rfl⟩
        refine xA tb hM0 6 [2,3,6,49,51] [] rfl ?_
        refine oP rfl (pure_lenm rfl Tryz.underlying29 rfl) ?_
        refine xA tb hM0 3 [2,3,6,53] [] rfl ?_
        refine spC 53 rfl ?_ ?_ <;> intro h6 <;> try simp only [dq] at h6
        ·skip
         refine xA tb hM0 6 [2,3,6] [] rfl ?_
         refine code_draw mixed (by kernel_rfl) _ rfl ?_
         refine dl_pure rfl rfl rfl (pure_field rfl fd31_2 rfl) ?_
         refine dl_pure rfl rfl rfl (pure_load rfl ag29 rfl rfl) ?_
         refine dl_pure rfl rfl rfl (pure_move rfl rfl) ?_
         refine dl_pure rfl rfl rfl (pure_ix rfl Tryz.underlying29 sz4 rfl rfl (by omega) (fun _ => rfl)) ?_
         refine dl_pure rfl rfl rfl (pure_load rfl ag4 rfl rfl) ?_
         refine dl_pure rfl rfl rfl (pure_field rfl fd31_2 rfl) ?_
         refine dl_pure rfl rfl rfl (pure_load rfl ag29 rfl rfl) ?_
         refine dpk 67 [(2,_),(3,_),(6,_),(60,_),(62,_)] [] rfl rfl rfl ?_
         refine dl_pure rfl rfl rfl (pure_move rfl rfl) ?_
         refine dl_pure rfl rfl rfl (pure_ix rfl Tryz.underlying29 sz4 rfl rfl (by omega) (fun _ => rfl)) ?_
         refine dl_pure rfl rfl rfl (pure_load rfl ag4 rfl rfl) ?_
         refine dl_pure rfl rfl rfl (pure_bne Tryz.underlying4 rfl rfl rfl) ?_
         refine dl_nil ?_
         refine xD tb hM0 1 [2,3,6,66] [] rfl ?_
         refine spC 66 rfl ?_ ?_ <;> intro h7 <;> try simp only [dq] at h7
         ·skip
          refine xA tb hM0 12 [] [] rfl ?_
          refine end_ret rfl ?_
          first
            | (rw [decide_eq_false (p := a = b) (fun e => by subst e; omega)]; first | done | rfl)
            | (rw [same_all (by omega) (by omega) (by omega) (fun j hj => hL1_1 j (by omega)) (fun j hj => hL2_1 j (by omega))]; first | done | rfl)
            | (rw [same_row (i := i)]; simp_all; done)
            | (rw [same_fin (i := i)]; intro q; rw [q] at h7; simp at h7; done)
         ·skip
          refine xA tb hM0 6 [2,3,54] [] rfl ?_
          refine oP rfl (pure_addi rfl rfl rfl (by omega)) ?_
          refine xA tb hM0 2 [2,3,6] [] rfl ?_
          refine nx ?_
          exact ⟨_, ⟨i + 1, rfl, by omega, upto_step hL2_1 (by simp_all), rfl⟩, by omega⟩
        ·skip
         refine xA tb hM0 12 [] [] rfl ?_
         refine end_ret rfl ?_
         first
           | (rw [decide_eq_false (p := a = b) (fun e => by subst e; omega)]; first | done | rfl)
           | (rw [same_all (by omega) (by omega) (by omega) (fun j hj => hL1_1 j (by omega)) (fun j hj => hL2_1 j (by omega))]; first | done | rfl)
           | (rw [same_row (i := i)]; simp_all; done)
           | (rw [same_fin (i := i)]; intro q; rw [q] at h7; simp at h7; done)
end Go.Proofs.YtjimlkpfmbachaaGreat

