/-
  Contracts: the program's validity, and whether an expression has the empty word.
-/
import Derived.Test.YtjimlkpfmbachaaGreatJ24
import Derived.Test.YtjimlkpfmbachaaGreatJ19
import Derived.Test.YtjimlkpfmbachaaGreatJ18
import Derived.Test.YtjimlkpfmbachaaGreatJ23
import Derived.Test.YtjimlkpfmbachaaGreatJ15
set_option linter.unusedVariables false
set_option linter.unusedSectionVars false
set_option linter.unusedSimpArgs false
namespace Go.Proofs.YtjimlkpfmbachaaGreat
open Go.Am Go.Wc Go.Wb Go.Wd
set_option linter.unusedVariables false
set_option linter.unusedSimpArgs false
theorem fn43 : Fn1 Tryz.prog 43 Tryz.f43.ntmps 4 (Tryz.f43.body.getD .skip) := ⟨Tryz.f43, Tryz.func43, rfl, rfl, rfl, by kernel_rfl⟩
set_option maxRecDepth 100000 in
set_option maxHeartbeats 8000000 in
theorem textO_call : ∀ (m : Nat) (r : Rx) (b : List Int), r.size ≤ m → b.length + 12 * r.size ≤ 1000000000000 → CallO Tryz.prog 43 [.own 0, .v .pl (rx r)] [(0, .arr 5 (b.map byteI))] (.own 0) [(0, .arr 5 ((b ++ tx r).map byteI))] := by
  intro m
  induction m with
  | zero => intro r b hr; have := size_pos r; omega
  | succ m ih =>
  intro r b hr hb
  have hkl := kids_len r
  have hsl := syms_len r
  have hse := size_eq r
  rw [rx_eq r]
  refine callO_of_code fn43 (Nat.le_of_ble_eq_true rfl) fun w0 M0 hM0 => ?_
  refine xC tb hM0 2 [0,1] [0] rfl ?_
  refine oP rfl (pure_box rfl rfl rfl hM0) ?_
  refine xA tb hM0 4 [0,3] [0] rfl ?_
  refine code_ren (t := 0) (t' := 100) rfl rfl (fun u d hu => all_lt (by rfl) hu) (fun u d hu hne => all_key (by rfl) hu hne) (fun u d hu hne => all_safe (u := 0) (by rfl) hu hne) ?_
  refine code_drawH (n := 44) (o1 := [(100, .arr 5 ((b).map byteI))]) (om := [(12, .arr 5 ((b ++ kbI r.kind).map byteI))]) (on := [(16, .arr 5 (((b ++ kbI r.kind) ++ kbI (r.syms.length : Int)).map byteI))]) (o2 := [(0, .arr 5 ((((b ++ kbI r.kind) ++ kbI (r.syms.length : Int)) ++ kbI (r.kids.length : Int)).map byteI))]) 3 7 11 12 [(9, .own 100), (10, .v .pl (rpc r)), (11, .v .pl (int r.kind)), (12, .own 12), (13, .v .pl (.pc [int r.kind, ints r.syms, rxs r.kids] 1)), (14, .v .pl (ints r.syms)), (15, .v .pl (int r.syms.length)), (16, .own 16), (17, .v .pl (.pc [int r.kind, ints r.syms, rxs r.kids] 2)), (18, .v .pl (rxs r.kids)), (19, .v .pl (int r.kids.length)), (20, .own 0), (0, .own 100), (3, .v .pl (rpc r))] mixed (by kernel_rfl) (by kernel_rfl) (by kernel_rfl) (by kernel_rfl) rfl (by kernel_rfl) (by kernel_rfl) (by kernel_rfl) rfl (fun t z h => h) rfl ?_ ?_ ?_ ?_ ?_ ?_
  · intro zi zt hzi hzd
    rcases (by omega : zi = 0 ∨ zi = 1 ∨ zi = 2 ∨ zi = 3 ∨ zi = 4 ∨ zi = 5 ∨ zi = 6 ∨ zi = 7 ∨ zi = 8 ∨ zi = 9 ∨ zi = 10 ∨ zi = 11) with rfl | rfl | rfl | rfl | rfl | rfl | rfl | rfl | rfl | rfl | rfl | rfl <;> (injection (show some _ = some zt from hzd) with hzd; subst hzd; exact ⟨_, rfl⟩)
  · intro zi zo zt zd hzi hza hzb hzc hzo hzd hzG ob
    rcases (by omega : zi = 0 ∨ zi = 1 ∨ zi = 2 ∨ zi = 4 ∨ zi = 5 ∨ zi = 6 ∨ zi = 8 ∨ zi = 9 ∨ zi = 10) with rfl | rfl | rfl | rfl | rfl | rfl | rfl | rfl | rfl
    · injection (show some _ = some zo from hzo) with hzo; subst hzo; injection (show some _ = some zt from hzd) with hzd; subst hzd; injection (show some _ = some zd from hzG) with hzG; subst hzG
      exact pure_move rfl rfl
    · injection (show some _ = some zo from hzo) with hzo; subst hzo; injection (show some _ = some zt from hzd) with hzd; subst hzd; injection (show some _ = some zd from hzG) with hzG; subst hzG
      exact pure_field rfl fd25_0 rfl
    · injection (show some _ = some zo from hzo) with hzo; subst hzo; injection (show some _ = some zt from hzd) with hzd; subst hzd; injection (show some _ = some zd from hzG) with hzG; subst hzG
      exact pure_load rfl ag3 rfl rfl
    · injection (show some _ = some zo from hzo) with hzo; subst hzo; injection (show some _ = some zt from hzd) with hzd; subst hzd; injection (show some _ = some zd from hzG) with hzG; subst hzG
      exact pure_field rfl fd25_1 rfl
    · injection (show some _ = some zo from hzo) with hzo; subst hzo; injection (show some _ = some zt from hzd) with hzd; subst hzd; injection (show some _ = some zd from hzG) with hzG; subst hzG
      exact pure_load rfl ag22 rfl rfl
    · injection (show some _ = some zo from hzo) with hzo; subst hzo; injection (show some _ = some zt from hzd) with hzd; subst hzd; injection (show some _ = some zd from hzG) with hzG; subst hzG
      exact pure_lenm rfl Tryz.underlying22 rfl
    · injection (show some _ = some zo from hzo) with hzo; subst hzo; injection (show some _ = some zt from hzd) with hzd; subst hzd; injection (show some _ = some zd from hzG) with hzG; subst hzG
      exact pure_field rfl fd25_2 rfl
    · injection (show some _ = some zo from hzo) with hzo; subst hzo; injection (show some _ = some zt from hzd) with hzd; subst hzd; injection (show some _ = some zd from hzG) with hzG; subst hzG
      exact pure_load rfl ag23 rfl rfl
    · injection (show some _ = some zo from hzo) with hzo; subst hzo; injection (show some _ = some zt from hzd) with hzd; subst hzd; injection (show some _ = some zd from hzG) with hzG; subst hzG
      exact pure_lenm rfl Tryz.underlying23 rfl
  · intro zo X hzo hXn hXG hXr
    have hXu : 9 ∈ looks _ zo → X.lookup 9 = some (.own 100) := fun h => (hXr 9 h).trans rfl
    have hXv : 11 ∈ looks _ zo → X.lookup 11 = some (.v .pl (int r.kind)) := fun h => (hXr 11 h).trans rfl
    injection (show some _ = some zo from hzo) with hzo'
    exact step_keyD (f := 89) (ats := #[60, 3]) (t' := 12) (by rw [← hzo']; rfl) (by rw [← hzo']; rfl) rfl hXn (hXu (by rw [← hzo']; decide)) (hXv (by rw [← hzo']; decide)) (keyO_call (b := b) (by omega)) rfl (fun u d hu => all_lt (by rfl) (hXG u d hu)) (fun u d hu hne => all_key (by rfl) (hXG u d hu) hne) hM0
  · intro zo X hzo hXn hXG hXr
    have hXu : 12 ∈ looks _ zo → X.lookup 12 = some (.own 12) := fun h => (hXr 12 h).trans rfl
    have hXv : 15 ∈ looks _ zo → X.lookup 15 = some (.v .pl (int r.syms.length)) := fun h => (hXr 15 h).trans rfl
    injection (show some _ = some zo from hzo) with hzo'
    exact step_keyD (f := 89) (ats := #[60, 3]) (t' := 16) (by rw [← hzo']; rfl) (by rw [← hzo']; rfl) rfl hXn (hXu (by rw [← hzo']; decide)) (hXv (by rw [← hzo']; decide)) (keyO_call (b := b ++ kbI r.kind) (by rw [List.length_append, kbI_len]; omega)) rfl (fun u d hu => all_lt (by rfl) (hXG u d hu)) (fun u d hu hne => all_key (by rfl) (hXG u d hu) hne) hM0
  · intro zo X hzo hXn hXG hXr
    have hXu : 16 ∈ looks _ zo → X.lookup 16 = some (.own 16) := fun h => (hXr 16 h).trans rfl
    have hXv : 19 ∈ looks _ zo → X.lookup 19 = some (.v .pl (int r.kids.length)) := fun h => (hXr 19 h).trans rfl
    injection (show some _ = some zo from hzo) with hzo'
    exact step_keyD (f := 89) (ats := #[60, 3]) (t' := 0) (by rw [← hzo']; rfl) (by rw [← hzo']; rfl) rfl hXn (hXu (by rw [← hzo']; decide)) (hXv (by rw [← hzo']; decide)) (keyO_call (b := (b ++ kbI r.kind) ++ kbI (r.syms.length : Int)) (by rw [List.length_append, List.length_append, kbI_len, kbI_len]; omega)) rfl (fun u d hu => all_lt (by rfl) (hXG u d hu)) (fun u d hu hne => all_key (by rfl) (hXG u d hu) hne) hM0
  refine endL_of (n := 1) (by kernel_rfl) ?_
  refine ex_one (i := 12) (by kernel_rfl) rfl rfl (st_pure rfl rfl (pure_assign rfl rfl)) ?_
  refine ex_end (by kernel_rfl) ?_
  refine xD tb hM0 6 [0,3,22] [0] rfl ?_
  refine oP rfl (pure_lenm rfl Tryz.underlying22 rfl) ?_
  refine xA tb hM0 4 [0,3,22,23,24] [0] rfl ?_
  refine lp (fun zm zs => ∃ i : Nat, zm = r.syms.length - i ∧ (i ≤ r.syms.length) ∧ zs = ⟨44, [(0, .own 0), (3, .v .pl (rpc r)), (22, .v .pl (ints r.syms)), (23, .v .pl (int r.syms.length)), (24, .v .pl (int i))], [(0, .arr 5 ((b ++ tSyms r i).map byteI))]⟩) ?_ ?_
  refine ⟨_, 0, rfl, Nat.zero_le _, ?_⟩
  rw [tSyms_zero, tHead, ← List.append_assoc, ← List.append_assoc]; rfl
  rintro zm zs ⟨i, rfl, hL1_0, rfl⟩
  refine xA tb hM0 6 [0,3,22,23,24,25] [0] rfl ?_
  refine spC 25 rfl ?_ ?_ <;> intro h1 <;> try simp only [dq] at h1
  refine xA tb hM0 7 [0,3,22,23,24] [0] rfl ?_
  refine oP rfl (pure_ix rfl Tryz.underlying22 sz3 rfl rfl (by omega) (fun _ => rfl)) ?_
  refine xA tb hM0 7 [3,22,23,24,28,29] [0] rfl ?_
  refine oS rfl (step_callO [(0, 0)] rfl rfl rfl rfl rfl rfl rfl (keyO_call (by rw [List.length_append, tSyms_len (by omega)]; omega)) ⟨.inl rfl, .inl rfl, trivial⟩ ⟨rfl, trivial⟩ rfl rfl rfl rfl rfl hM0) rfl ?_
  refine xA tb hM0 5 [0,3,22,23,24] [0] rfl ?_
  refine oP rfl (pure_addi rfl rfl rfl (by omega)) ?_
  refine xA tb hM0 2 [0,3,22,23,24] [0] rfl ?_
  refine nx ?_
  refine ⟨_, ⟨i + 1, rfl, by omega, ?_⟩, by omega⟩
  rw [tSyms_succ (by omega), ← List.append_assoc]; rfl
  refine xA tb hM0 11 [0,33] [0] rfl ?_
  refine oP rfl (pure_lenm rfl Tryz.underlying23 rfl) ?_
  refine xA tb hM0 4 [0,33,34,35] [0] rfl ?_
  obtain rfl : i = r.syms.length := by omega
  refine lp (fun zm zs => ∃ j : Nat, zm = r.kids.length - j ∧ (j ≤ r.kids.length) ∧ zs = ⟨44, [(0, .own 0), (33, .v .pl (rxs r.kids)), (34, .v .pl (int r.kids.length)), (35, .v .pl (int j))], [(0, .arr 5 ((b ++ tKids r j).map byteI))]⟩) ?_ ?_
  refine ⟨_, 0, rfl, Nat.zero_le _, ?_⟩
  rw [tKids_zero]; first | done | rfl
  rintro zm zs ⟨j, rfl, hL2_0, rfl⟩
  have hbk : j < r.kids.length → (b ++ tKids r j).length + 12 * (r.kids.getD j default).size ≤ 1000000000000 := fun h => by
    have h1 := txk_len h
    rw [List.length_append]; omega
  refine xA tb hM0 6 [0,33,34,35,36] [0] rfl ?_
  refine spC 36 rfl ?_ ?_ <;> intro h2 <;> try simp only [dq] at h2
  refine xA tb hM0 7 [0,33,34,35] [0] rfl ?_
  refine oP rfl (pure_ix rfl Tryz.underlying23 sz25 rfl rfl (by omega) (fun _ => rfl)) ?_
  refine xA tb hM0 8 [33,34,35,39,40] [0] rfl ?_
  refine oS rfl (step_callO [(0, 0)] rfl rfl rfl rfl rfl rfl rfl (ih (r.kids.getD j default) (b ++ tKids r j) (by have := kid_lt (r := r) (i := j) (by omega); omega) (hbk (by omega))) ⟨.inl rfl, .inl rfl, trivial⟩ ⟨rfl, trivial⟩ rfl rfl rfl rfl rfl hM0) rfl ?_
  refine xA tb hM0 5 [0,33,34,35] [0] rfl ?_
  refine oP rfl (pure_addi rfl rfl rfl (by omega)) ?_
  refine xA tb hM0 2 [0,33,34,35] [0] rfl ?_
  refine nx ?_
  refine ⟨_, ⟨j + 1, rfl, by omega, ?_⟩, by omega⟩
  rw [tKids_succ (by omega), ← List.append_assoc]; rfl
  refine xA tb hM0 13 [] [] rfl ?_
  refine endO_ret (o1 := [(0, _)]) rfl ⟨rfl, trivial⟩ ?_
  obtain rfl : j = r.kids.length := by omega
  rw [tKids_all]
  exact ⟨rfl, rfl⟩
end Go.Proofs.YtjimlkpfmbachaaGreat

namespace Go.Proofs.YtjimlkpfmbachaaGreat
open Go.Am Go.Wb
set_option linter.unusedVariables false
set_option linter.unusedSimpArgs false

theorem fn85 : Fn1 Tryz.prog 85 Tryz.f85.ntmps 2 (Tryz.f85.body.getD .skip) := ⟨Tryz.f85, Tryz.func85, rfl, rfl, rfl, by kernel_rfl⟩
set_option maxRecDepth 100000 in
set_option maxHeartbeats 1000000 in
theorem set_call {l : List Int} (hl : l.length ≤ 9223372036854775807) : CallF Tryz.prog 85 [ints l] (.p (bool (setOk l))) := by
  refine callF_of_code fn85 (Nat.le_of_ble_eq_true rfl) fun w0 M0 hM0 => ?_
  refine xC tb hM0 9 [0,5] [] rfl ?_
  refine oP rfl (pure_lenm rfl Tryz.underlying22 rfl) ?_
  refine xA tb hM0 4 [0,5,6,7] [] rfl ?_
  refine lp (fun zm zs => ∃ k : Nat, zm = l.length - k ∧ (k ≤ l.length) ∧ (∀ j, j < k → okAt l j) ∧ zs = ⟨35, [(0, .v .mx (ints l)), (5, .v .mx (ints l)), (6, .v .pl (int l.length)), (7, .v .pl (int k))], []⟩) ?_ ?_
  exact ⟨_, 0, rfl, Nat.zero_le _, fun j hj => absurd hj (by omega), rfl⟩
  rintro zm zs ⟨k, rfl, hL1_0, hL1_1, rfl⟩
  refine xA tb hM0 6 [0,5,6,7,8] [] rfl ?_
  refine spC 8 rfl ?_ ?_ <;> intro h1 <;> try simp only [dq] at h1
  refine xA tb hM0 8 [0,5,6,7,9] [] rfl ?_
  refine oP rfl (pure_ix rfl Tryz.underlying22 sz3 rfl rfl (by omega) (fun _ => rfl)) ?_
  refine xA tb hM0 10 [0,3,4,5,6,7,14] [] rfl ?_
  refine spO 14 rfl ?_ ?_ <;> intro h2' <;> try simp only [dq] at h2'
  refine xA tb hM0 30 [] [] rfl ?_
  refine end_ret rfl ?_; rotate_left
  refine xA tb hM0 4 [0,3,4,5,6,7,18] [] rfl ?_
  refine spO 18 rfl ?_ ?_ <;> intro h3' <;> try simp only [dq] at h3'
  refine xA tb hM0 26 [] [] rfl ?_
  refine end_ret rfl ?_; rotate_left
  refine xA tb hM0 3 [0,3,4,5,6,7,18,21] [] rfl ?_
  refine spO 21 rfl ?_ ?_ <;> intro h4' <;> try simp only [dq] at h4'
  refine xA tb hM0 3 [0,5,6,7,18,21,22,23,24] [] rfl ?_
  refine oP rfl (pure_subi rfl rfl rfl (by omega)) ?_
  refine oP rfl (pure_ix rfl Tryz.underlying22 sz3 rfl rfl (by omega) (fun _ => rfl)) ?_
  refine xA tb hM0 6 [0,5,6,7,30] [] rfl ?_
  refine spC 30 rfl ?_ ?_ <;> intro h5 <;> try simp only [dq] at h5
  refine xA tb hM0 12 [] [] rfl ?_
  refine end_ret rfl ?_; rotate_left
  refine xA tb hM0 5 [0,5,6,7] [] rfl ?_
  refine oP rfl (pure_addi rfl rfl rfl (by omega)) ?_
  refine xA tb hM0 2 [0,5,6,7] [] rfl ?_
  refine nx ?_; rotate_left
  refine xA tb hM0 16 [0,5,6,7] [] rfl ?_
  refine oP rfl (pure_addi rfl rfl rfl (by omega)) ?_
  refine xA tb hM0 2 [0,5,6,7] [] rfl ?_
  refine nx ?_; rotate_left
  refine xA tb hM0 9 [32] [] rfl ?_
  refine oP rfl (pure_lenm rfl Tryz.underlying22 rfl) ?_
  refine xA tb hM0 5 [] [] rfl ?_
  refine end_ret rfl ?_
  rw [setOk_end (fun j hj => hL1_1 j (by omega))]; exact congrArg (fun b => RV.p (bool b)) (decide_eq_decide.2 (by omega))
  all_goals first
   | (
     rw [← setOk_no (l := l) (k := k) (by omega) (fun q => by obtain ⟨q1, q2, q3⟩ := q; omega)]; done)
   | (
     exact ⟨_, ⟨k + 1, rfl, by omega, all_step hL1_1 ⟨by omega, by omega, fun _ => by omega⟩, rfl⟩, by omega⟩; done)

end Go.Proofs.YtjimlkpfmbachaaGreat

namespace Go.Proofs.YtjimlkpfmbachaaGreat
open Go.Am Go.Wb
set_option linter.unusedVariables false
set_option linter.unusedSimpArgs false

end Go.Proofs.YtjimlkpfmbachaaGreat

namespace Go.Proofs.YtjimlkpfmbachaaGreat
open Go.Am Go.Wb
set_option linter.unusedVariables false
set_option linter.unusedSimpArgs false

end Go.Proofs.YtjimlkpfmbachaaGreat

namespace Go.Proofs.YtjimlkpfmbachaaGreat
open Go.Am Go.Wb
set_option linter.unusedVariables false
set_option linter.unusedSimpArgs false

theorem fn103 : Fn1 Tryz.prog 103 Tryz.f103.ntmps 4 (Tryz.f103.body.getD .skip) := ⟨Tryz.f103, Tryz.func103, rfl, rfl, rfl, by kernel_rfl⟩
set_option maxRecDepth 100000 in
set_option maxHeartbeats 1000000 in
theorem idxR_call {l : List Rx} {p : Rx → Bool} {g : FuncId} (hl : l.length ≤ 1099511627776) (hf : ∀ x ∈ l, CallF Tryz.prog g [rx x] (.p (bool (p x)))) : CallF Tryz.prog 103 [rxs l, .clo g []] (.p (int (idxF p l))) := by
  refine callF_of_code fn103 (Nat.le_of_ble_eq_true rfl) fun w0 M0 hM0 => ?_
  refine xC tb hM0 9 [0,1,6] [] rfl ?_
  refine oP rfl (pure_lenm rfl Tryz.underlying23 rfl) ?_
  refine xA tb hM0 4 [0,1,7,8] [] rfl ?_
  refine lp (fun zm zs => ∃ k : Nat, zm = l.length - k ∧ (k ≤ l.length) ∧ (∀ j, j < k → p (l.getD j default) = false) ∧ zs = ⟨19, [(0, .v .mx (rxs l)), (1, .v .mx (.clo g [])), (7, .v .pl (int l.length)), (8, .v .pl (int k))], []⟩) ?_ ?_
  exact ⟨_, 0, rfl, Nat.zero_le _, fun j hj => absurd hj (by omega), rfl⟩
  rintro zm zs ⟨k, rfl, hL1_0, hL1_1, rfl⟩
  refine xA tb hM0 6 [0,1,7,8,9] [] rfl ?_
  refine spC 9 rfl ?_ ?_ <;> intro h1 <;> try simp only [dq] at h1
  refine xA tb hM0 16 [0,1,5,7,8,11,12,13] [] rfl ?_
  refine oP rfl (pure_ix rfl Tryz.underlying23 sz25 rfl rfl (by omega) (fun _ => rfl)) ?_
  refine xA tb hM0 1 [0,1,5,7,8,11,15] [] rfl ?_
  refine oP rfl (pure_call rfl rfl rfl (hf _ (kid_mem (by omega))) hM0) ?_
  refine xA tb hM0 2 [0,1,5,7,8,16] [] rfl ?_
  refine spC 16 rfl ?_ ?_ <;> intro h2 <;> try simp only [dq] at h2
  refine xA tb hM0 13 [] [] rfl ?_
  refine end_ret rfl ?_
  rw [← idxF_hit (p := p) (l := l) (k := k) (by omega) hL1_1 (by simp_all)]
  refine xA tb hM0 5 [0,1,7,8] [] rfl ?_
  refine oP rfl (pure_addi rfl rfl rfl (by omega)) ?_
  refine xA tb hM0 2 [0,1,7,8] [] rfl ?_
  refine nx ?_
  exact ⟨_, ⟨k + 1, rfl, by omega, all_step hL1_1 (by simp_all), rfl⟩, by omega⟩
  refine xA tb hM0 12 [] [] rfl ?_
  refine end_ret rfl ?_
  rw [← idxF_none (p := p) (l := l) (fun j hj => hL1_1 j (by omega))]

theorem fn86 : Fn1 Tryz.prog 86 Tryz.f86.ntmps 4 (Tryz.f86.body.getD .skip) := ⟨Tryz.f86, Tryz.func86, rfl, rfl, rfl, by kernel_rfl⟩
set_option maxRecDepth 100000 in
set_option maxHeartbeats 1000000 in
theorem hasR_call {l : List Rx} {p : Rx → Bool} {g : FuncId} (hl : l.length ≤ 1099511627776) (hf : ∀ x ∈ l, CallF Tryz.prog g [rx x] (.p (bool (p x)))) : CallF Tryz.prog 86 [rxs l, .clo g []] (.p (bool (l.any p))) := by
  refine callF_of_code fn86 (Nat.le_of_ble_eq_true rfl) fun w0 M0 hM0 => ?_
  refine xC tb hM0 9 [5,6] [] rfl ?_
  refine oP rfl (pure_call rfl rfl rfl (idxR_call hl hf) hM0) ?_
  refine xA tb hM0 5 [] [] rfl ?_
  refine end_ret rfl ?_
  rw [idxF_ge]
end Go.Proofs.YtjimlkpfmbachaaGreat

namespace Go.Proofs.YtjimlkpfmbachaaGreat
open Go.Am Go.Wb
set_option linter.unusedVariables false
set_option linter.unusedSimpArgs false

end Go.Proofs.YtjimlkpfmbachaaGreat

namespace Go.Proofs.YtjimlkpfmbachaaGreat
open Go.Am Go.Wb
set_option linter.unusedVariables false
set_option linter.unusedSimpArgs false

theorem fn87 : Fn1 Tryz.prog 87 Tryz.f87.ntmps 2 (Tryz.f87.body.getD .skip) := ⟨Tryz.f87, Tryz.func87, rfl, rfl, rfl, by kernel_rfl⟩
set_option maxRecDepth 100000 in
set_option maxHeartbeats 4000000 in
theorem validN_call {x : Rx} (h : CallF Tryz.prog 40 [rx x] (.p (bool (validR x)))) : CallF Tryz.prog 87 [rx x] (.p (bool (!validR x))) := by
  refine callF_of_code fn87 (Nat.le_of_ble_eq_true rfl) fun w0 M0 hM0 => ?_
  refine xC tb hM0 2 [0] [] rfl ?_
  refine oP rfl (pure_box rfl rfl rfl hM0) ?_
  refine xA tb hM0 6 [3] [] rfl ?_
  refine oP rfl (pure_call rfl rfl rfl (h) hM0) ?_
  refine xA tb hM0 5 [] [] rfl ?_
  refine end_ret rfl ?_
  rfl

theorem fn40 : Fn1 Tryz.prog 40 Tryz.f40.ntmps 2 (Tryz.f40.body.getD .skip) := ⟨Tryz.f40, Tryz.func40, rfl, rfl, rfl, by kernel_rfl⟩
set_option maxRecDepth 100000 in
set_option maxHeartbeats 4000000 in
theorem valid_call : ∀ (m : Nat) (r : Rx), r.size ≤ m → m ≤ 1099511627776 → CallF Tryz.prog 40 [rx r] (.p (bool (validR r))) := by
  intro m
  induction m with
  | zero => intro a hr _; have := size_pos a; omega
  | succ m ih =>
  intro r hr hm
  have hkl := kids_len r
  have hsl := syms_len r
  rw [rx_eq r]
  refine callF_of_code fn40 (Nat.le_of_ble_eq_true rfl) fun w0 M0 hM0 => ?_
  refine xC tb hM0 2 [0] [] rfl ?_
  refine oP rfl (pure_box rfl rfl rfl hM0) ?_
  refine xA tb hM0 18 [1,4,5] [] rfl ?_
  refine spC 5 rfl ?_ ?_ <;> intro h1 <;> try simp only [dq] at h1
  refine xA tb hM0 8 [1,9] [] rfl ?_
  refine oP rfl (pure_lenm rfl Tryz.underlying22 rfl) ?_
  refine xA tb hM0 2 [1,12] [] rfl ?_
  refine spO 12 rfl ?_ ?_ <;> intro h2' <;> try simp only [dq] at h2'
  refine xA tb hM0 2 [12,14] [] rfl ?_
  refine oP rfl (pure_lenm rfl Tryz.underlying23 rfl) ?_
  refine xA tb hM0 8 [] [] rfl ?_
  refine end_ret rfl ?_; rotate_left
  refine xA tb hM0 11 [] [] rfl ?_
  refine end_ret rfl ?_; rotate_left
  refine xA tb hM0 6 [1,4,5] [] rfl ?_
  refine spC 5 rfl ?_ ?_ <;> intro h3 <;> try simp only [dq] at h3
  refine xA tb hM0 5 [1,9] [] rfl ?_
  refine oP rfl (pure_lenm rfl Tryz.underlying22 rfl) ?_
  refine xA tb hM0 2 [1,12] [] rfl ?_
  refine spO 12 rfl ?_ ?_ <;> intro h4' <;> try simp only [dq] at h4'
  refine xA tb hM0 2 [12,14] [] rfl ?_
  refine oP rfl (pure_lenm rfl Tryz.underlying23 rfl) ?_
  refine xA tb hM0 8 [] [] rfl ?_
  refine end_ret rfl ?_; rotate_left
  refine xA tb hM0 11 [] [] rfl ?_
  refine end_ret rfl ?_; rotate_left
  refine xA tb hM0 7 [1,4,18] [] rfl ?_
  refine spC 18 rfl ?_ ?_ <;> intro h5 <;> try simp only [dq] at h5
  refine xA tb hM0 5 [1,21] [] rfl ?_
  refine oP rfl (pure_lenm rfl Tryz.underlying23 rfl) ?_
  refine xA tb hM0 2 [1,24] [] rfl ?_
  refine spO 24 rfl ?_ ?_ <;> intro h6' <;> try simp only [dq] at h6'
  refine xA tb hM0 2 [24,26] [] rfl ?_
  refine oP rfl (pure_call rfl rfl rfl (set_call (by omega)) hM0) ?_
  refine xA tb hM0 7 [] [] rfl ?_
  refine end_ret rfl ?_; rotate_left
  refine xA tb hM0 10 [] [] rfl ?_
  refine end_ret rfl ?_; rotate_left
  refine xA tb hM0 7 [1,4,29] [] rfl ?_
  refine spC 29 rfl ?_ ?_ <;> intro h7 <;> try simp only [dq] at h7
  refine xA tb hM0 5 [1,32] [] rfl ?_
  refine oP rfl (pure_lenm rfl Tryz.underlying22 rfl) ?_
  refine xA tb hM0 2 [1,35] [] rfl ?_
  refine spO 35 rfl ?_ ?_ <;> intro h8' <;> try simp only [dq] at h8'
  refine xA tb hM0 2 [1,35,37] [] rfl ?_
  refine oP rfl (pure_lenm rfl Tryz.underlying23 rfl) ?_
  refine xA tb hM0 3 [1,41] [] rfl ?_
  refine spO 41 rfl ?_ ?_ <;> intro h9' <;> try simp only [dq] at h9'
  refine xA tb hM0 2 [41,43] [] rfl ?_
  refine oP rfl (pure_ix rfl Tryz.underlying23 sz25 rfl rfl (by omega) (fun _ => rfl)) ?_
  refine xA tb hM0 1 [41,45] [] rfl ?_
  refine oP rfl (pure_call rfl rfl rfl (ih _ (Nat.le_of_lt_succ (Nat.lt_of_lt_of_le (kid_lt (by omega)) hr)) (by omega)) hM0) ?_
  refine xA tb hM0 7 [] [] rfl ?_
  refine end_ret rfl ?_; rotate_left
  refine xA tb hM0 12 [] [] rfl ?_
  refine end_ret rfl ?_; rotate_left
  refine xA tb hM0 18 [] [] rfl ?_
  refine end_ret rfl ?_; rotate_left
  refine xA tb hM0 8 [1,4,48] [] rfl ?_
  refine spC 48 rfl ?_ ?_ <;> intro h10 <;> try simp only [dq] at h10
  refine xA tb hM0 8 [1,52] [] rfl ?_
  refine oP rfl (pure_lenm rfl Tryz.underlying22 rfl) ?_
  refine xA tb hM0 2 [1,55] [] rfl ?_
  refine spO 55 rfl ?_ ?_ <;> intro h11' <;> try simp only [dq] at h11'
  refine xA tb hM0 2 [55,57] [] rfl ?_
  refine oP rfl (pure_call rfl rfl rfl (hasR_call (p := fun x => !validR x) (by omega) (fun x hx => validN_call (ih _ (Nat.le_of_lt_succ (Nat.lt_of_lt_of_le (size_kid hx) hr)) (by omega)))) hM0) ?_
  refine xA tb hM0 8 [] [] rfl ?_
  refine end_ret rfl ?_; rotate_left
  refine xA tb hM0 11 [] [] rfl ?_
  refine end_ret rfl ?_; rotate_left
  refine xA tb hM0 6 [1,48] [] rfl ?_
  refine spC 48 rfl ?_ ?_ <;> intro h12 <;> try simp only [dq] at h12
  refine xA tb hM0 5 [1,52] [] rfl ?_
  refine oP rfl (pure_lenm rfl Tryz.underlying22 rfl) ?_
  refine xA tb hM0 2 [1,55] [] rfl ?_
  refine spO 55 rfl ?_ ?_ <;> intro h13' <;> try simp only [dq] at h13'
  refine xA tb hM0 2 [55,57] [] rfl ?_
  refine oP rfl (pure_call rfl rfl rfl (hasR_call (p := fun x => !validR x) (by omega) (fun x hx => validN_call (ih _ (Nat.le_of_lt_succ (Nat.lt_of_lt_of_le (size_kid hx) hr)) (by omega)))) hM0) ?_
  refine xA tb hM0 8 [] [] rfl ?_
  refine end_ret rfl ?_; rotate_left
  refine xA tb hM0 11 [] [] rfl ?_
  refine end_ret rfl ?_; rotate_left
  refine xA tb hM0 10 [] [] rfl ?_
  refine end_ret rfl ?_; rotate_left
  all_goals
    first | (rw [validR_01 (r := r) (by omega)]; simp_all; done) | (rw [validR_2 (r := r) (by omega)]; simp_all; done) | (rw [validR_5 (r := r) (by omega), decide_eq_true (p := r.syms.length = 0) (by omega), decide_eq_true (p := r.kids.length = 1) (by omega)]; first | rfl | (simp_all; done)) | (rw [validR_5 (r := r) (by omega), decide_eq_false (p := r.kids.length = 1) (by omega), Bool.false_and, Bool.and_false]; first | done | rfl | (simp_all; done)) | (rw [validR_5 (r := r) (by omega), decide_eq_false (p := r.syms.length = 0) (by omega), Bool.false_and]; first | done | rfl | (simp_all; done)) | (rw [validR_34 (r := r) (by omega)]; simp_all; done) | (rw [validR_no (r := r) (by omega)]; done)

theorem fn110 : Fn1 Tryz.prog 110 Tryz.f110.ntmps 2 (Tryz.f110.body.getD .skip) := ⟨Tryz.f110, Tryz.func110, rfl, rfl, rfl, by kernel_rfl⟩
set_option maxRecDepth 100000 in
set_option maxHeartbeats 4000000 in
theorem emptyN_call {x : Rx} (h : CallF Tryz.prog 91 [rx x] (.p (bool (accR x)))) : CallF Tryz.prog 110 [rx x] (.p (bool (!accR x))) := by
  refine callF_of_code fn110 (Nat.le_of_ble_eq_true rfl) fun w0 M0 hM0 => ?_
  refine xC tb hM0 2 [0] [] rfl ?_
  refine oP rfl (pure_box rfl rfl rfl hM0) ?_
  refine xA tb hM0 6 [3] [] rfl ?_
  refine oP rfl (pure_call rfl rfl rfl (h) hM0) ?_
  refine xA tb hM0 5 [] [] rfl ?_
  refine end_ret rfl ?_
  rfl

theorem fn91 : Fn1 Tryz.prog 91 Tryz.f91.ntmps 2 (Tryz.f91.body.getD .skip) := ⟨Tryz.f91, Tryz.func91, rfl, rfl, rfl, by kernel_rfl⟩
set_option maxRecDepth 100000 in
set_option maxHeartbeats 4000000 in
theorem empty_call : ∀ (m : Nat) (r : Rx), r.size ≤ m → m ≤ 1099511627776 → CallF Tryz.prog 91 [rx r] (.p (bool (accR r))) := by
  intro m
  induction m with
  | zero => intro a hr _; have := size_pos a; omega
  | succ m ih =>
  intro r hr hm
  have hkl := kids_len r
  have hsl := syms_len r
  rw [rx_eq r]
  refine callF_of_code fn91 (Nat.le_of_ble_eq_true rfl) fun w0 M0 hM0 => ?_
  refine xC tb hM0 2 [0] [] rfl ?_
  refine oP rfl (pure_box rfl rfl rfl hM0) ?_
  refine xA tb hM0 18 [1,4,5] [] rfl ?_
  refine spC 5 rfl ?_ ?_ <;> intro h1 <;> try simp only [dq] at h1
  refine xA tb hM0 12 [] [] rfl ?_
  refine end_ret rfl ?_; rotate_left
  refine xA tb hM0 6 [1,4,5] [] rfl ?_
  refine spC 5 rfl ?_ ?_ <;> intro h2 <;> try simp only [dq] at h2
  refine xA tb hM0 9 [] [] rfl ?_
  refine end_ret rfl ?_; rotate_left
  refine xA tb hM0 7 [1,4,8] [] rfl ?_
  refine spC 8 rfl ?_ ?_ <;> intro h3 <;> try simp only [dq] at h3
  refine xA tb hM0 5 [11] [] rfl ?_
  refine oP rfl (pure_call rfl rfl rfl (hasR_call (p := fun x => !accR x) (by omega) (fun x hx => emptyN_call (ih _ (Nat.le_of_lt_succ (Nat.lt_of_lt_of_le (size_kid hx) hr)) (by omega)))) hM0) ?_
  refine xA tb hM0 7 [] [] rfl ?_
  refine end_ret rfl ?_; rotate_left
  refine xA tb hM0 7 [1,14] [] rfl ?_
  refine spC 14 rfl ?_ ?_ <;> intro h4 <;> try simp only [dq] at h4
  refine xA tb hM0 5 [17] [] rfl ?_
  refine oP rfl (pure_call rfl rfl rfl (hasR_call (p := accR) (by omega) (fun x hx => (ih _ (Nat.le_of_lt_succ (Nat.lt_of_lt_of_le (size_kid hx) hr)) (by omega)))) hM0) ?_
  refine xA tb hM0 6 [] [] rfl ?_
  refine end_ret rfl ?_; rotate_left
  refine xA tb hM0 10 [] [] rfl ?_
  refine end_ret rfl ?_; rotate_left
  all_goals
    rw [accR_eq]; first | (rw [if_pos (by omega), all_not_any]; done) | (rw [if_neg (by omega), if_pos (by omega)]; done) | (rw [if_neg (by omega), if_neg (by omega)]; simp_all; done) | (rw [if_neg (by omega), if_neg (by omega), decide_eq_false (by omega)]; done)

theorem fn48 : Fn1 Tryz.prog 48 Tryz.f48.ntmps 2 (Tryz.f48.body.getD .skip) := ⟨Tryz.f48, Tryz.func48, rfl, rfl, rfl, by kernel_rfl⟩
set_option maxRecDepth 100000 in
set_option maxHeartbeats 4000000 in
theorem Empty_call {r : Rx} (h : r.size ≤ 1099511627776) : CallF Tryz.prog 48 [rx r] (.p (bool (validR r && accR r))) := by
  refine callF_of_code fn48 (Nat.le_of_ble_eq_true rfl) fun w0 M0 hM0 => ?_
  refine xC tb hM0 2 [0] [] rfl ?_
  refine oP rfl (pure_box rfl rfl rfl hM0) ?_
  refine xA tb hM0 6 [1,3] [] rfl ?_
  refine oP rfl (pure_call rfl rfl rfl (valid_call _ _ (Nat.le_refl _) h) hM0) ?_
  refine xA tb hM0 1 [1,5] [] rfl ?_
  refine spO 5 rfl ?_ ?_ <;> intro h1' <;> try simp only [dq] at h1'
  refine xA tb hM0 1 [5,6] [] rfl ?_
  refine oP rfl (pure_call rfl rfl rfl (empty_call _ _ (Nat.le_refl _) h) hM0) ?_
  refine xA tb hM0 5 [] [] rfl ?_
  refine end_ret rfl ?_
  simp_all
  refine xA tb hM0 7 [] [] rfl ?_
  refine end_ret rfl ?_
  simp_all

end Go.Proofs.YtjimlkpfmbachaaGreat

