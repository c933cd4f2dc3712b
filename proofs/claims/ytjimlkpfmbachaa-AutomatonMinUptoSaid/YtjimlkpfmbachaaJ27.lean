/-
  Contracts: small functions on automata.
-/
import Derived.Test.YtjimlkpfmbachaaJ14
import Derived.Test.YtjimlkpfmbachaaRows
import Derived.Test.YtjimlkpfmbachaaJ15
set_option linter.unusedVariables false
set_option linter.unusedSimpArgs false
namespace Go.Proofs.Ytjimlkpfmbachaa
open Go.Am
theorem mixed : Try.prog.follows .mixedOrders = true := by kernel_rfl
theorem sz3 : szOf Try.prog 3 = some 1 := by kernel_rfl
theorem ag3 : isAggOf Try.prog 3 = some false := by kernel_rfl
theorem el3 : elOk Try.prog 3 1 8 = true := by kernel_rfl
theorem zv3 : (Try.prog.info? 3).bind (·.zero) = some (.int .i64 0) := by kernel_rfl
theorem ze3 : zeroOf Try.prog 3 = some [.int .i64 0] := by kernel_rfl
theorem sz4 : szOf Try.prog 4 = some 1 := by kernel_rfl
theorem ag4 : isAggOf Try.prog 4 = some false := by kernel_rfl
theorem el4 : elOk Try.prog 4 1 1 = true := by kernel_rfl
theorem zv4 : (Try.prog.info? 4).bind (·.zero) = some (.bool false) := by kernel_rfl
theorem el5 : elOk Try.prog 5 1 1 = true := by kernel_rfl
theorem sz9 : szOf Try.prog 9 = some 1 := by kernel_rfl
theorem ag9 : isAggOf Try.prog 9 = some false := by kernel_rfl
theorem el9 : elOk Try.prog 9 1 16 = true := by kernel_rfl
theorem sz22 : szOf Try.prog 22 = some 1 := by kernel_rfl
theorem ag22 : isAggOf Try.prog 22 = some false := by kernel_rfl
theorem el22 : elOk Try.prog 22 1 24 = true := by kernel_rfl
theorem ag23 : isAggOf Try.prog 23 = some false := by kernel_rfl
theorem sz24 : szOf Try.prog 24 = some 1 := by kernel_rfl
theorem ag24 : isAggOf Try.prog 24 = some false := by kernel_rfl
theorem sz26 : szOf Try.prog 26 = some 3 := by kernel_rfl
theorem ag26 : isAggOf Try.prog 26 = some true := by kernel_rfl
theorem el26 : elOk Try.prog 26 3 56 = true := by kernel_rfl
theorem ze26 : zeroOf Try.prog 26 = some [.int .i64 0, .slice none 0 0, .slice none 0 0] := by kernel_rfl
theorem pl26 : placesOf Try.prog 26 = some [(0, 1), (1, 1), (2, 1)] := by kernel_rfl
theorem fd26_0 : fldOf Try.prog 26 0 = some (0, 0 + 1, false) := by kernel_rfl
theorem fd26_1 : fldOf Try.prog 26 1 = some (1, 0 + 1, false) := by kernel_rfl
theorem fd26_2 : fldOf Try.prog 26 2 = some (2, 0 + 1, false) := by kernel_rfl
theorem sz45 : szOf Try.prog 45 = some 1 := by kernel_rfl
theorem ag45 : isAggOf Try.prog 45 = some false := by kernel_rfl
theorem sz47 : szOf Try.prog 47 = some 3 := by kernel_rfl
theorem ag47 : isAggOf Try.prog 47 = some true := by kernel_rfl
theorem el47 : elOk Try.prog 47 3 56 = true := by kernel_rfl
theorem ze47 : zeroOf Try.prog 47 = some [.int .i64 0, .slice none 0 0, .slice none 0 0] := by kernel_rfl
theorem pl47 : placesOf Try.prog 47 = some [(0, 1), (1, 1), (2, 1)] := by kernel_rfl
theorem fd47_0 : fldOf Try.prog 47 0 = some (0, 0 + 1, false) := by kernel_rfl
theorem fd47_1 : fldOf Try.prog 47 1 = some (1, 0 + 1, false) := by kernel_rfl
theorem fd47_2 : fldOf Try.prog 47 2 = some (2, 0 + 1, false) := by kernel_rfl
theorem sz52 : szOf Try.prog 52 = some 1 := by kernel_rfl
theorem ag52 : isAggOf Try.prog 52 = some false := by kernel_rfl
theorem el52 : elOk Try.prog 52 1 8 = true := by kernel_rfl
theorem ze52 : zeroOf Try.prog 52 = some [.int .u64 0] := by kernel_rfl
theorem sz56 : szOf Try.prog 56 = some 2 := by kernel_rfl
theorem ag56 : isAggOf Try.prog 56 = some true := by kernel_rfl
theorem ze56 : zeroOf Try.prog 56 = some [.int .i64 0, .int .i64 0] := by kernel_rfl
theorem sz68 : szOf Try.prog 68 = some 1 := by kernel_rfl
theorem ag68 : isAggOf Try.prog 68 = some false := by kernel_rfl
theorem sz71 : szOf Try.prog 71 = some 1 := by kernel_rfl
theorem ag71 : isAggOf Try.prog 71 = some false := by kernel_rfl
theorem sz80 : szOf Try.prog 80 = some 4 := by kernel_rfl
theorem el80 : elOk Try.prog 80 4 32 = true := by kernel_rfl
theorem fd80_0 : fldOf Try.prog 80 0 = some (0, 1 + 1, true) := by kernel_rfl
theorem fd80_1 : fldOf Try.prog 80 1 = some (2, 0 + 1, false) := by kernel_rfl
theorem fd80_2 : fldOf Try.prog 80 2 = some (3, 0 + 1, false) := by kernel_rfl
theorem sz91 : szOf Try.prog 91 = some 3 := by kernel_rfl
theorem el91 : elOk Try.prog 91 3 24 = true := by kernel_rfl
theorem fd91_0 : fldOf Try.prog 91 0 = some (0, 0 + 1, false) := by kernel_rfl
theorem fd91_1 : fldOf Try.prog 91 1 = some (1, 0 + 1, false) := by kernel_rfl
theorem fd91_2 : fldOf Try.prog 91 2 = some (2, 0 + 1, false) := by kernel_rfl
def n8 : List (Option (Nat × Nat × Bool)) := [none, none, none, none, none, none, none, none]
def tab : List (Nat × TyF) := [(2, ⟨some 1, some false, some [.int .i64 0], none, n8⟩),
 (3, ⟨some 1, some false, some [.int .i64 0], none, n8⟩),
 (4, ⟨some 1, some false, some [.bool false], none, n8⟩),
 (5, ⟨some 1, some false, some [.int .u8 0], none, n8⟩),
 (6, ⟨some 1, some false, some [.int .u8 0], none, n8⟩),
 (7, ⟨some 4, some true, some [.int .i64 0, .int .i64 0, .bool false, .int .u8 0], some [(0, 1), (1, 1), (2, 1), (3, 1)], [some (0, 1, false), some (1, 1, false), some (2, 1, false), some (3, 1, false), none, none, none, none]⟩),
 (8, ⟨some 4, some true, some [.int .i64 0, .int .i64 0, .bool false, .int .u8 0], some [(0, 1), (1, 1), (2, 1), (3, 1)], [some (0, 1, false), some (1, 1, false), some (2, 1, false), some (3, 1, false), none, none, none, none]⟩),
 (9, ⟨some 1, some false, some [.string ⟨#[]⟩], none, n8⟩),
 (10, ⟨some 1, some false, some [.string ⟨#[]⟩], none, n8⟩),
 (11, ⟨some 1, some false, some [.string ⟨#[]⟩], none, n8⟩),
 (12, ⟨some 1, some false, some [.int .u64 0], none, n8⟩),
 (13, ⟨some 2, some true, some [.string ⟨#[]⟩, .int .u64 0], some [(0, 1), (1, 1)], [some (0, 1, false), some (1, 1, false), none, none, none, none, none, none]⟩),
 (14, ⟨some 2, some true, some [.string ⟨#[]⟩, .int .u64 0], some [(0, 1), (1, 1)], [some (0, 1, false), some (1, 1, false), none, none, none, none, none, none]⟩),
 (21, ⟨some 1, some false, some [.int .i32 0], none, n8⟩),
 (22, ⟨some 1, some false, some [.slice none 0 0], none, n8⟩),
 (23, ⟨some 1, some false, some [.slice none 0 0], none, n8⟩),
 (24, ⟨some 1, some false, some [.slice none 0 0], none, n8⟩),
 (25, ⟨some 3, some true, some [.int .i64 0, .slice none 0 0, .slice none 0 0], some [(0, 1), (1, 1), (2, 1)], [some (0, 1, false), some (1, 1, false), some (2, 1, false), none, none, none, none, none]⟩),
 (26, ⟨some 3, some true, some [.int .i64 0, .slice none 0 0, .slice none 0 0], some [(0, 1), (1, 1), (2, 1)], [some (0, 1, false), some (1, 1, false), some (2, 1, false), none, none, none, none, none]⟩),
 (29, ⟨some 1, some false, some [.slice none 0 0], none, n8⟩),
 (45, ⟨some 1, some false, some [.slice none 0 0], none, n8⟩),
 (46, ⟨some 3, some true, some [.int .i64 0, .slice none 0 0, .slice none 0 0], some [(0, 1), (1, 1), (2, 1)], [some (0, 1, false), some (1, 1, false), some (2, 1, false), none, none, none, none, none]⟩),
 (47, ⟨some 3, some true, some [.int .i64 0, .slice none 0 0, .slice none 0 0], some [(0, 1), (1, 1), (2, 1)], [some (0, 1, false), some (1, 1, false), some (2, 1, false), none, none, none, none, none]⟩),
 (48, ⟨some 1, some false, some [.int .i64 0], none, n8⟩),
 (52, ⟨some 1, some false, some [.int .u64 0], none, n8⟩),
 (55, ⟨some 2, some true, some [.int .i64 0, .int .i64 0], none, n8⟩),
 (56, ⟨some 2, some true, some [.int .i64 0, .int .i64 0], none, n8⟩),
 (61, ⟨some 1, some false, some [.map none], none, n8⟩),
 (62, ⟨some 1, some false, some [.slice none 0 0], none, n8⟩),
 (65, ⟨some 1, some false, some [.map none], none, n8⟩),
 (68, ⟨some 1, some false, some [.map none], none, n8⟩),
 (77, ⟨some 1, some false, some [.slice none 0 0], none, n8⟩),
 (78, ⟨some 1, some false, some [.map none], none, n8⟩),
 (79, ⟨some 4, some true, some [.int .i64 0, .int .i64 0, .int .i64 0, .int .i64 0], some [(0, 2), (2, 1), (3, 1)], [some (0, 2, true), some (2, 1, false), some (3, 1, false), none, none, none, none, none]⟩),
 (80, ⟨some 4, some true, some [.int .i64 0, .int .i64 0, .int .i64 0, .int .i64 0], some [(0, 2), (2, 1), (3, 1)], [some (0, 2, true), some (2, 1, false), some (3, 1, false), none, none, none, none, none]⟩),
 (81, ⟨some 1, some false, some [.slice none 0 0], none, n8⟩),
 (84, ⟨some 1, some false, some [.int .u64 0], none, n8⟩),
 (88, ⟨some 1, some false, some [.slice none 0 0], none, n8⟩),
 (89, ⟨some 1, some false, some [.map none], none, n8⟩),
 (90, ⟨some 3, some true, some [.int .i64 0, .int .i64 0, .int .i64 0], some [(0, 1), (1, 1), (2, 1)], [some (0, 1, false), some (1, 1, false), some (2, 1, false), none, none, none, none, none]⟩),
 (91, ⟨some 3, some true, some [.int .i64 0, .int .i64 0, .int .i64 0], some [(0, 1), (1, 1), (2, 1)], [some (0, 1, false), some (1, 1, false), some (2, 1, false), none, none, none, none, none]⟩),
 (92, ⟨some 1, some false, some [.slice none 0 0], none, n8⟩),
 (111, ⟨some 1, some false, some [.int .i64 0], none, n8⟩),
 (118, ⟨some 1, some false, some [.int .u32 0], none, n8⟩),
 (125, ⟨some 1, some false, some [.int .u64 0], none, n8⟩),
 (144, ⟨some 1, some false, some [.int .u8 0], none, n8⟩),
 (145, ⟨some 1, some false, some [.int .u8 0], none, n8⟩),
 (148, ⟨some 1, some false, some [.int .i32 0], none, n8⟩),
 (149, ⟨some 1, some false, some [.int .i32 0], none, n8⟩)]
theorem tb : TabOk Try.prog tab := by unfold TabOk; kernel_rfl
end Go.Proofs.Ytjimlkpfmbachaa

namespace Go.Proofs.Ytjimlkpfmbachaa
open Go.Am Go.Wc
set_option linter.unusedVariables false
set_option linter.unusedSimpArgs false

theorem fn31 : Fn1 Try.prog 31 Try.f31.ntmps 4 (Try.f31.body.getD .skip) := ⟨Try.f31, Try.func31, rfl, rfl, rfl, by kernel_rfl⟩
set_option maxRecDepth 100000 in
set_option maxHeartbeats 1000000 in
theorem around_call {n most : Int} (hn : I64 n) (hm : 0 < most) : CallF Try.prog 31 [int n, int most] (.p (int (around n most))) := by
  obtain ⟨hn1, hn2⟩ := hn
  refine callF_of_code fn31 (Nat.le_of_ble_eq_true rfl) fun w0 M0 hM0 => ?_
  refine xC tb hM0 12 [0,1,6] [] rfl ?_
  refine spC 6 rfl ?_ ?_ <;> intro h1 <;> try simp only [dq] at h1
  refine xA tb hM0 3 [1,7] [] rfl ?_
  refine oP rfl (pure_addi rfl rfl rfl (by omega)) ?_
  refine oP rfl (pure_neg rfl rfl (by omega)) ?_
  refine xA tb hM0 7 [10,11] [] rfl ?_
  refine oP rfl (pure_remn rfl rfl rfl (by omega)) ?_
  refine xA tb hM0 4 [] [] rfl ?_
  refine end_ret rfl ?_; rotate_left
  refine xA tb hM0 7 [10,11] [] rfl ?_
  refine oP rfl (pure_remn rfl rfl rfl (by omega)) ?_
  refine xA tb hM0 4 [] [] rfl ?_
  refine end_ret rfl ?_; rotate_left
  all_goals
    unfold around; first | rw [if_pos (by assumption)] | rw [if_neg (by assumption)]
theorem fn15 : Fn1 Try.prog 15 Try.f15.ntmps 6 (Try.f15.body.getD .skip) := ⟨Try.f15, Try.func15, rfl, rfl, rfl, by kernel_rfl⟩
set_option maxRecDepth 100000 in
set_option maxHeartbeats 1000000 in
theorem at_call {l : List Int} {i most : Int} (hl : I64s l) (hm : 0 < most) : CallF Try.prog 15 [ints l, int i, int most] (.p (int (atL l i most))) := by
  have hl' := hl.get i.toNat
  refine callF_of_code fn15 (Nat.le_of_ble_eq_true rfl) fun w0 M0 hM0 => ?_
  refine xC tb hM0 11 [0,1,2,9] [] rfl ?_
  refine spO 9 rfl ?_ ?_ <;> intro h1' <;> try simp only [dq] at h1'
  refine xA tb hM0 15 [] [] rfl ?_
  refine end_ret rfl ?_; rotate_left
  refine xA tb hM0 2 [0,1,2,9,10,11] [] rfl ?_
  refine oP rfl (pure_lenm rfl Try.underlying22 rfl) ?_
  refine xA tb hM0 4 [0,1,2,14] [] rfl ?_
  refine spC 14 rfl ?_ ?_ <;> intro h2 <;> try simp only [dq] at h2
  refine xA tb hM0 8 [] [] rfl ?_
  refine end_ret rfl ?_; rotate_left
  refine xA tb hM0 7 [2,15,16] [] rfl ?_
  refine oP rfl (pure_ix rfl Try.underlying22 sz3 rfl rfl (by omega) (fun _ => rfl)) ?_
  refine xA tb hM0 2 [18,19] [] rfl ?_
  refine oP rfl (pure_call rfl rfl rfl (around_call (by assumption) (by omega)) hM0) ?_
  refine xA tb hM0 4 [] [] rfl ?_
  refine end_ret rfl ?_; rotate_left
  all_goals
    unfold atL; first | (rw [if_pos (by omega)]) | (rw [if_neg (by omega)])
end Go.Proofs.Ytjimlkpfmbachaa

namespace Go.Proofs.Ytjimlkpfmbachaa
open Go.Am Go.Wc Go.Wd
set_option linter.unusedVariables false
set_option linter.unusedSimpArgs false
theorem fn16 : Fn1 Try.prog 16 Try.f16.ntmps 4 (Try.f16.body.getD .skip) := ⟨Try.f16, Try.func16, rfl, rfl, rfl, by kernel_rfl⟩
set_option maxRecDepth 100000 in
set_option maxHeartbeats 1000000 in
theorem sameInts_call {a b : List Int} (ha : a.length ≤ 4611686018427387904) : CallF Try.prog 16 [ints a, ints b] (.p (bool (decide (a = b)))) := by
  refine callF_of_code fn16 (Nat.le_of_ble_eq_true rfl) fun w0 M0 hM0 => ?_
  refine xC tb hM0 9 [0,1,6] [] rfl ?_
  refine oP rfl (pure_lenm rfl Try.underlying22 rfl) ?_
  refine xA tb hM0 1 [0,1,7,8] [] rfl ?_
  refine oP rfl (pure_lenm rfl Try.underlying22 rfl) ?_
  refine xA tb hM0 3 [0,1,10] [] rfl ?_
  refine spC 10 rfl ?_ ?_ <;> intro h1 <;> try simp only [dq] at h1
  refine xA tb hM0 8 [] [] rfl ?_
  refine end_ret rfl ?_
  rw [decide_eq_false]; intro he; subst he; exact h1 rfl
  refine xA tb hM0 10 [0,1,5] [] rfl ?_
  refine lp (fun zm zs => ∃ k : Nat, zm = a.length - k ∧ (k ≤ a.length) ∧ (a.take k = b.take k) ∧ zs = ⟨26, [(0, .v .mx (ints a)), (1, .v .mx (ints b)), (5, .v .pl (int k))], []⟩) ?_ ?_
  exact ⟨_, 0, rfl, Nat.zero_le _, rfl, rfl⟩
  rintro zm zs ⟨k, rfl, hL1_0, hL1_1, rfl⟩
  refine xA tb hM0 5 [0,1,5,11,12] [] rfl ?_
  refine oP rfl (pure_lenm rfl Try.underlying22 rfl) ?_
  refine xA tb hM0 3 [0,1,5,14] [] rfl ?_
  refine spC 14 rfl ?_ ?_ <;> intro h2 <;> try simp only [dq] at h2
  refine xA tb hM0 6 [0,1,5] [] rfl ?_
  refine code_draw mixed (by kernel_rfl) _ rfl ?_
  refine dl_pure rfl rfl rfl (pure_move rfl rfl) ?_
  refine dl_pure rfl rfl rfl (pure_move rfl rfl) ?_
  refine dl_pure rfl rfl rfl (pure_ix rfl Try.underlying22 sz3 rfl rfl (by omega) (fun _ => rfl)) ?_
  refine dl_pure rfl rfl rfl (pure_load rfl ag3 rfl rfl) ?_
  refine dl_pure rfl rfl rfl (pure_move rfl rfl) ?_
  refine dl_pure rfl rfl rfl (pure_move rfl rfl) ?_
  refine dl_pure rfl rfl rfl (pure_ix rfl Try.underlying22 sz3 rfl rfl (by omega) (fun _ => rfl)) ?_
  refine dl_pure rfl rfl rfl (pure_load rfl ag3 rfl rfl) ?_
  refine dl_pure rfl rfl rfl (pure_neq rfl rfl rfl) ?_
  refine dl_nil ?_
  refine xD tb hM0 1 [0,1,5,25] [] rfl ?_
  refine spC 25 rfl ?_ ?_ <;> intro h3 <;> try simp only [dq] at h3
  refine xA tb hM0 12 [] [] rfl ?_
  refine end_ret rfl ?_
  rw [decide_eq_false]; intro he; subst he; exact h3 rfl
  refine xA tb hM0 6 [0,1,15] [] rfl ?_
  refine oP rfl (pure_addi rfl rfl rfl (by omega)) ?_
  refine xA tb hM0 2 [0,1,5] [] rfl ?_
  refine nx ?_
  exact ⟨_, ⟨k + 1, rfl, by omega, by rw [take_succ (by omega), take_succ (by omega), hL1_1, h3], rfl⟩, by omega⟩
  refine xA tb hM0 12 [] [] rfl ?_
  refine end_ret rfl ?_
  rw [decide_eq_true]; have h := hL1_1; rw [List.take_of_length_le (by omega), List.take_of_length_le (by omega)] at h; exact h
theorem fn7 : Fn1 Try.prog 7 Try.f7.ntmps 4 (Try.f7.body.getD .skip) := ⟨Try.f7, Try.func7, rfl, rfl, rfl, by kernel_rfl⟩
set_option maxRecDepth 100000 in
set_option maxHeartbeats 4000000 in
theorem dsame_call {a b : Dfa} (hn : a.next.length ≤ 1099511627776) (hf : a.fin.length ≤ 1099511627776) (hl : ∀ r ∈ a.next, r.length ≤ 4611686018427387904) : CallF Try.prog 7 [dfa a, dfa b] (.p (bool (decide (a = b)))) := by
  have hla : ∀ i, (a.next.getD i default).length ≤ 4611686018427387904 := fun i => by
    rw [List.getD_eq_getElem?_getD]
    cases hk : a.next[i]? with
    | none => exact Nat.zero_le _
    | some r => exact hl r (List.mem_of_getElem? hk)
  refine callF_of_code fn7 (Nat.le_of_ble_eq_true rfl) fun w0 M0 hM0 => ?_
  refine xC tb hM0 2 [0,1] [] rfl ?_
  refine oP rfl (pure_box rfl rfl rfl hM0) ?_
  refine oP rfl (pure_box rfl rfl rfl hM0) ?_
  refine xA tb hM0 12 [2,3,12] [] rfl ?_
  refine spO 12 rfl ?_ ?_ <;> intro h1' <;> try simp only [dq] at h1'
  ·skip
   refine xA tb hM0 27 [] [] rfl ?_
   refine end_ret rfl ?_
   first
     | (rw [decide_eq_false (p := a = b) (fun e => by subst e; omega)]; first | done | rfl)
     | (rw [same_all (by omega) (by omega) (by omega) (fun j hj => hL1_1 j (by omega)) (fun j hj => hL2_1 j (by omega))]; first | done | rfl)
     | (rw [same_row (i := i)]; simp_all; done)
     | (rw [same_fin (i := i)]; intro q; rw [q] at h7; simp at h7; done)
  ·skip
   refine xA tb hM0 2 [2,3,12,14] [] rfl ?_
   refine oP rfl (pure_lenm rfl Try.underlying23 rfl) ?_
   refine xA tb hM0 2 [2,3,12,15,17] [] rfl ?_
   refine oP rfl (pure_lenm rfl Try.underlying23 rfl) ?_
   refine xA tb hM0 3 [2,3,21] [] rfl ?_
   refine spO 21 rfl ?_ ?_ <;> intro h2' <;> try simp only [dq] at h2'
   ·skip
    refine xA tb hM0 18 [] [] rfl ?_
    refine end_ret rfl ?_
    first
      | (rw [decide_eq_false (p := a = b) (fun e => by subst e; omega)]; first | done | rfl)
      | (rw [same_all (by omega) (by omega) (by omega) (fun j hj => hL1_1 j (by omega)) (fun j hj => hL2_1 j (by omega))]; first | done | rfl)
      | (rw [same_row (i := i)]; simp_all; done)
      | (rw [same_fin (i := i)]; intro q; rw [q] at h7; simp at h7; done)
   ·skip
    refine xA tb hM0 2 [2,3,21,23] [] rfl ?_
    refine oP rfl (pure_lenm rfl Try.underlying24 rfl) ?_
    refine xA tb hM0 2 [2,3,21,24,26] [] rfl ?_
    refine oP rfl (pure_lenm rfl Try.underlying24 rfl) ?_
    refine xA tb hM0 4 [2,3,29] [] rfl ?_
    refine spC 29 rfl ?_ ?_ <;> intro h3 <;> try simp only [dq] at h3
    ·skip
     refine xA tb hM0 8 [] [] rfl ?_
     refine end_ret rfl ?_
     first
       | (rw [decide_eq_false (p := a = b) (fun e => by subst e; omega)]; first | done | rfl)
       | (rw [same_all (by omega) (by omega) (by omega) (fun j hj => hL1_1 j (by omega)) (fun j hj => hL2_1 j (by omega))]; first | done | rfl)
       | (rw [same_row (i := i)]; simp_all; done)
       | (rw [same_fin (i := i)]; intro q; rw [q] at h7; simp at h7; done)
    ·skip
     refine xA tb hM0 10 [2,3,5] [] rfl ?_
     refine lp (fun zm zs => ∃ i : Nat, zm = a.next.length - i ∧ (i ≤ a.next.length) ∧ (∀ j, j < i → a.next.getD j default = b.next.getD j default) ∧ zs = ⟨67, [(2, .v .mx (dpc a)), (3, .v .mx (dpc b)), (5, .v .pl (int i))], []⟩) ?_ ?_
     ·exact ⟨_, 0, rfl, Nat.zero_le _, fun j hj => absurd hj (Nat.not_lt_zero j), rfl⟩
     ·rintro zm zs ⟨i, rfl, hL1_0, hL1_1, rfl⟩
      refine xA tb hM0 6 [2,3,5,30,32] [] rfl ?_
      refine oP rfl (pure_lenm rfl Try.underlying23 rfl) ?_
      refine xA tb hM0 3 [2,3,5,34] [] rfl ?_
      refine spC 34 rfl ?_ ?_ <;> intro h4 <;> try simp only [dq] at h4
      ·skip
       refine xA tb hM0 6 [2,3,5] [] rfl ?_
       refine code_draw mixed (by kernel_rfl) _ rfl ?_
       refine dl_pure rfl rfl rfl (pure_field rfl fd26_1 rfl) ?_
       refine dl_pure rfl rfl rfl (pure_load rfl ag23 rfl rfl) ?_
       refine dl_pure rfl rfl rfl (pure_move rfl rfl) ?_
       refine dl_pure rfl rfl rfl (pure_ix rfl Try.underlying23 sz22 rfl rfl (by omega) (fun _ => rfl)) ?_
       refine dl_pure rfl rfl rfl (pure_load rfl ag22 rfl rfl) ?_
       refine dl_pure rfl rfl rfl (pure_field rfl fd26_1 rfl) ?_
       refine dl_pure rfl rfl rfl (pure_load rfl ag23 rfl rfl) ?_
       refine dpk 67 [(2,_),(3,_),(5,_),(41,_),(43,_)] [] rfl rfl rfl ?_
       refine dl_pure rfl rfl rfl (pure_move rfl rfl) ?_
       refine dl_pure rfl rfl rfl (pure_ix rfl Try.underlying23 sz22 rfl rfl (by omega) (fun _ => rfl)) ?_
       refine dl_pure rfl rfl rfl (pure_load rfl ag22 rfl rfl) ?_
       refine dl_pure rfl rfl rfl (pure_call rfl rfl rfl (sameInts_call (hla _)) hM0) ?_
       refine dl_pure rfl rfl rfl (pure_not rfl rfl) ?_
       refine dl_nil ?_
       refine xD tb hM0 1 [2,3,5,48] [] rfl ?_
       refine spC 48 rfl ?_ ?_ <;> intro h5 <;> try simp only [dq] at h5
       ·skip
        refine xA tb hM0 12 [] [] rfl ?_
        refine end_ret rfl ?_
        first
          | (rw [decide_eq_false (p := a = b) (fun e => by subst e; omega)]; first | done | rfl)
          | (rw [same_all (by omega) (by omega) (by omega) (fun j hj => hL1_1 j (by omega)) (fun j hj => hL2_1 j (by omega))]; first | done | rfl)
          | (rw [same_row (i := i)]; simp_all; done)
          | (rw [same_fin (i := i)]; intro q; rw [q] at h7; simp at h7; done)
       ·skip
        refine xA tb hM0 6 [2,3,35] [] rfl ?_
        refine oP rfl (pure_addi rfl rfl rfl (by omega)) ?_
        refine xA tb hM0 2 [2,3,5] [] rfl ?_
        refine nx ?_
        exact ⟨_, ⟨i + 1, rfl, by omega, upto_step hL1_1 (by simp_all), rfl⟩, by omega⟩
      ·skip
       refine xA tb hM0 13 [2,3,6] [] rfl ?_
       refine lp (fun zm zs => ∃ i : Nat, zm = a.fin.length - i ∧ (i ≤ a.fin.length) ∧ (∀ j, j < i → a.fin.getD j default = b.fin.getD j default) ∧ zs = ⟨67, [(2, .v .mx (dpc a)), (3, .v .mx (dpc b)), (6, .v .pl (int i))], []⟩) ?_ ?_
       ·exact ⟨_, 0, rfl, Nat.zero_le _, fun j hj => absurd hj (Nat.not_lt_zero j), rfl⟩
       ·rintro zm zs ⟨i, rfl, hL2_0, hL2_1, rfl⟩
        refine xA tb hM0 6 [2,3,6,49,51] [] rfl ?_
        refine oP rfl (pure_lenm rfl Try.underlying24 rfl) ?_
        refine xA tb hM0 3 [2,3,6,53] [] rfl ?_
        refine spC 53 rfl ?_ ?_ <;> intro h6 <;> try simp only [dq] at h6
        ·skip
         refine xA tb hM0 6 [2,3,6] [] rfl ?_
         refine code_draw mixed (by kernel_rfl) _ rfl ?_
         refine dl_pure rfl rfl rfl (pure_field rfl fd26_2 rfl) ?_
         refine dl_pure rfl rfl rfl (pure_load rfl ag24 rfl rfl) ?_
         refine dl_pure rfl rfl rfl (pure_move rfl rfl) ?_
         refine dl_pure rfl rfl rfl (pure_ix rfl Try.underlying24 sz4 rfl rfl (by omega) (fun _ => rfl)) ?_
         refine dl_pure rfl rfl rfl (pure_load rfl ag4 rfl rfl) ?_
         refine dl_pure rfl rfl rfl (pure_field rfl fd26_2 rfl) ?_
         refine dl_pure rfl rfl rfl (pure_load rfl ag24 rfl rfl) ?_
         refine dpk 67 [(2,_),(3,_),(6,_),(60,_),(62,_)] [] rfl rfl rfl ?_
         refine dl_pure rfl rfl rfl (pure_move rfl rfl) ?_
         refine dl_pure rfl rfl rfl (pure_ix rfl Try.underlying24 sz4 rfl rfl (by omega) (fun _ => rfl)) ?_
         refine dl_pure rfl rfl rfl (pure_load rfl ag4 rfl rfl) ?_
         refine dl_pure rfl rfl rfl (pure_bne Try.underlying4 rfl rfl rfl) ?_
         refine dl_nil ?_
         refine xD tb hM0 1 [2,3,6,66] [] rfl ?_
         refine spC 66 rfl ?_ ?_ <;> intro h7 <;> try simp only [dq] at h7
         ·skip
          refine xA tb hM0 12 [] [] rfl ?_
          refine end_ret rfl ?_
          first
            | (rw [decide_eq_false (p := a = b) (fun e => by subst e; omega)]; first | done | rfl)
            | (rw [same_all (by omega) (by omega) (by omega) (fun j hj => hL1_1 j (by omega)) (fun j hj => hL2_1 j (by omega))]; first | done | rfl)
            | (rw [same_row (i := i)]; simp_all; done)
            | (rw [same_fin (i := i)]; intro q; rw [q] at h7; simp at h7; done)
         ·skip
          refine xA tb hM0 6 [2,3,54] [] rfl ?_
          refine oP rfl (pure_addi rfl rfl rfl (by omega)) ?_
          refine xA tb hM0 2 [2,3,6] [] rfl ?_
          refine nx ?_
          exact ⟨_, ⟨i + 1, rfl, by omega, upto_step hL2_1 (by simp_all), rfl⟩, by omega⟩
        ·skip
         refine xA tb hM0 12 [] [] rfl ?_
         refine end_ret rfl ?_
         first
           | (rw [decide_eq_false (p := a = b) (fun e => by subst e; omega)]; first | done | rfl)
           | (rw [same_all (by omega) (by omega) (by omega) (fun j hj => hL1_1 j (by omega)) (fun j hj => hL2_1 j (by omega))]; first | done | rfl)
           | (rw [same_row (i := i)]; simp_all; done)
           | (rw [same_fin (i := i)]; intro q; rw [q] at h7; simp at h7; done)
end Go.Proofs.Ytjimlkpfmbachaa

