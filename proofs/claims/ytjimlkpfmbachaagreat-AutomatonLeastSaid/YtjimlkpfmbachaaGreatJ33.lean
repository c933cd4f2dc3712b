/-
  Contracts: what is reached from a pair of states; the least word that tells two automata apart.
-/
import Derived.Test.YtjimlkpfmbachaaGreatJ29
import Derived.Test.YtjimlkpfmbachaaGreatJ32
import Derived.Test.YtjimlkpfmbachaaGreatJ21
import Derived.Test.YtjimlkpfmbachaaGreatJ30
import Derived.Test.YtjimlkpfmbachaaGreatJ31
import Derived.Test.YtjimlkpfmbachaaGreatJ20
import Derived.Test.YtjimlkpfmbachaaGreatJ22
set_option linter.unusedVariables false
set_option linter.unusedSectionVars false
set_option linter.unusedSimpArgs false
namespace Go.Proofs.YtjimlkpfmbachaaGreat
open Go.Am Go.Wc Go.Wb Go.Wd
set_option linter.unusedVariables false
set_option linter.unusedSimpArgs false
theorem fn19 : Fn2 Tryz.prog 19 Tryz.f19.ntmps 4 5 (Tryz.f19.body.getD .skip) := ⟨Tryz.f19, Tryz.func19, rfl, rfl, rfl, by kernel_rfl⟩
set_option maxRecDepth 100000 in
set_option maxHeartbeats 8000000 in
theorem rdiffer_call {a b : Dfa} (hn : a.n * b.n ≤ 2048) : CallF Tryz.prog 19 [dfa a, dfa b] (.p (.tup [resW (differZ a b), bool (differZ a b).isSome])) := by
  refine callF_of_code2 fn19 (Nat.le_of_ble_eq_true rfl) fun w0 M0 hM0 => ?_
  refine xC tb hM0 2 [0,1] [] rfl ?_
  refine oP rfl (pure_box rfl rfl rfl hM0) ?_
  refine oP rfl (pure_box rfl rfl rfl hM0) ?_
  refine xA tb hM0 8 [2,3,14] [] rfl ?_
  refine oP rfl (pure_call rfl rfl rfl (rvalidD_call (d := a)) hM0) ?_
  refine xA tb hM0 2 [2,3,17] [] rfl ?_
  refine spO 17 rfl ?_ ?_ <;> intro h1' <;> try simp only [dq] at h1'
  refine xA tb hM0 22 [] [] rfl ?_
  refine end2_ret rfl rfl ?_; rotate_left
  refine xA tb hM0 1 [2,3,17,18] [] rfl ?_
  refine oP rfl (pure_call rfl rfl rfl (rvalidD_call (d := b)) hM0) ?_
  refine xA tb hM0 3 [2,3,22] [] rfl ?_
  refine spO 22 rfl ?_ ?_ <;> intro h2' <;> try simp only [dq] at h2'
  refine xA tb hM0 17 [] [] rfl ?_
  refine end2_ret rfl rfl ?_; rotate_left
  refine xA tb hM0 8 [2,3,28] [] rfl ?_
  refine spC 28 rfl ?_ ?_ <;> intro h3 <;> try simp only [dq] at h3
  refine xA tb hM0 9 [] [] rfl ?_
  refine end2_ret rfl rfl ?_; rotate_left
  have hda := valid_ok (d := a) (by assumption)
  have hdb := valid_ok (d := b) (by assumption)
  have hse : a.size = b.size := by omega
  have hkk : a.k = b.k := by unfold Dfa.k; rw [hse]
  have hna := not_facts (a := a) (by assumption)
  have hnb := not_facts (a := b) (by assumption)
  have hm1 : a.n * (notZ b).n ≤ 2048 := Nat.le_trans (Nat.mul_le_mul_left _ hnb.2.2.2) hn
  have hm2 : (notZ a).n * b.n ≤ 2048 := Nat.le_trans (Nat.mul_le_mul_right _ hna.2.2.2) hn
  have hrd := rdiff_z (a := a) (b := b) (by assumption) (by assumption) hse hn
  refine xA tb hM0 4 [2,3] [] rfl ?_
  refine code_drawE (n := 66) (om := [(6, .box 31 [.v .pl (.sc (.int .i64 0)), .v .pl (.sc (.slice none 0 0)), .v .pl (.sc (.slice none 0 0))])]) (o2 := [(6, .box 31 [.v .pl (int ((prodP (ft false) a (notZ b))).size), .v .pl (rowsA ((prodP (ft false) a (notZ b))).next), .v .pl (boolsA ((prodP (ft false) a (notZ b))).fin)])]) 7 8 10 [(30, .v .mx (dfa a)), (31, .v .mx (dfa b)), (32, .v .pl (dfa (notZ b))), (33, .v .pl (.tup [dfa (prodP (ft false) a (notZ b)), bool true])), (29, .v .pl (.tup [dfa (prodP (ft false) a (notZ b)), bool true])), (34, .v .pl (dfa (prodP (ft false) a (notZ b)))), (35, .v .pl (bool true)), (6, .pbox 6 0), (7, .v .pl (bool true)), (2, .v .mx (dpc a)), (3, .v .mx (dpc b))] mixed (by kernel_rfl) (by kernel_rfl) (by kernel_rfl) (by kernel_rfl) rfl (by kernel_rfl) rfl (fun t z h => h) rfl ?_ ?_ ?_ ?_ ?_ ?_ ?_
  · intro zi zt hzi hzd
    rcases (by omega : zi = 0 ∨ zi = 1 ∨ zi = 2 ∨ zi = 3 ∨ zi = 4 ∨ zi = 5 ∨ zi = 6 ∨ zi = 7 ∨ zi = 8 ∨ zi = 9) with rfl | rfl | rfl | rfl | rfl | rfl | rfl | rfl | rfl | rfl
    · injection (show some _ = some zt from hzd) with hzd; subst hzd; exact ⟨_, rfl⟩
    · injection (show some _ = some zt from hzd) with hzd; subst hzd; exact ⟨_, rfl⟩
    · injection (show some _ = some zt from hzd) with hzd; subst hzd; exact ⟨_, rfl⟩
    · injection (show some _ = some zt from hzd) with hzd; subst hzd; exact ⟨_, rfl⟩
    · injection (show some _ = some zt from hzd) with hzd; subst hzd; exact ⟨_, rfl⟩
    · injection (show some _ = some zt from hzd) with hzd; subst hzd; exact ⟨_, rfl⟩
    · injection (show some _ = some zt from hzd) with hzd; subst hzd; exact ⟨_, rfl⟩
    · injection (show some _ = some zt from hzd) with hzd; subst hzd; exact ⟨_, rfl⟩
    · cases (show (none : Option Nat) = some zt from hzd)
    · injection (show some _ = some zt from hzd) with hzd; subst hzd; exact ⟨_, rfl⟩
  · intro zi zo zt zd hzi hzia hzib hzo hzd hzG hzn
    rcases (by omega : zi = 0 ∨ zi = 1 ∨ zi = 2 ∨ zi = 3 ∨ zi = 4 ∨ zi = 5 ∨ zi = 6 ∨ zi = 9) with rfl | rfl | rfl | rfl | rfl | rfl | rfl | rfl
    · injection (show some _ = some zo from hzo) with hzo; subst hzo; injection (show some _ = some zt from hzd) with hzd; subst hzd; injection (show some _ = some zd from hzG) with hzG; subst hzG
      exact (pure_norm (pure_load_agg rfl ag31 sz31 rfl (Nat.le_of_ble_eq_true rfl)) rfl)
    · injection (show some _ = some zo from hzo) with hzo; subst hzo; injection (show some _ = some zt from hzd) with hzd; subst hzd; injection (show some _ = some zd from hzG) with hzG; subst hzG
      exact (pure_norm (pure_load_agg rfl ag31 sz31 rfl (Nat.le_of_ble_eq_true rfl)) rfl)
    · injection (show some _ = some zo from hzo) with hzo; subst hzo; injection (show some _ = some zt from hzd) with hzd; subst hzd; injection (show some _ = some zd from hzG) with hzG; subst hzG
      exact (pure_callD rfl rfl rfl (rnot_call (d := b)) hM0)
    · injection (show some _ = some zo from hzo) with hzo; subst hzo; injection (show some _ = some zt from hzd) with hzd; subst hzd; injection (show some _ = some zd from hzG) with hzG; subst hzG
      exact (pure_callD rfl rfl rfl (rproduct_call (a := a) (b := notZ b) (e := false) hda hnb.1 (by omega) hm1) hM0)
    · injection (show some _ = some zo from hzo) with hzo; subst hzo; injection (show some _ = some zt from hzd) with hzd; subst hzd; injection (show some _ = some zd from hzG) with hzG; subst hzG
      exact (pure_move rfl rfl)
    · injection (show some _ = some zo from hzo) with hzo; subst hzo; injection (show some _ = some zt from hzd) with hzd; subst hzd; injection (show some _ = some zd from hzG) with hzG; subst hzG
      exact (pure_extract rfl rfl rfl)
    · injection (show some _ = some zo from hzo) with hzo; subst hzo; injection (show some _ = some zt from hzd) with hzd; subst hzd; injection (show some _ = some zd from hzG) with hzG; subst hzG
      exact (pure_extract rfl rfl rfl)
    · first | exact absurd hzn (by decide)
  · intro zi zo zt zd hzi hzia hzib hzo hzd hzG hzn hzn2
    rcases (by omega : zi = 0 ∨ zi = 1 ∨ zi = 2 ∨ zi = 3 ∨ zi = 4 ∨ zi = 5 ∨ zi = 6 ∨ zi = 9) with rfl | rfl | rfl | rfl | rfl | rfl | rfl | rfl
    · injection (show some _ = some zo from hzo) with hzo; subst hzo; injection (show some _ = some zt from hzd) with hzd; subst hzd; injection (show some _ = some zd from hzG) with hzG; subst hzG
      exact (pure_norm (pure_load_agg rfl ag31 sz31 rfl (Nat.le_of_ble_eq_true rfl)) rfl)
    · injection (show some _ = some zo from hzo) with hzo; subst hzo; injection (show some _ = some zt from hzd) with hzd; subst hzd; injection (show some _ = some zd from hzG) with hzG; subst hzG
      exact (pure_norm (pure_load_agg rfl ag31 sz31 rfl (Nat.le_of_ble_eq_true rfl)) rfl)
    · injection (show some _ = some zo from hzo) with hzo; subst hzo; injection (show some _ = some zt from hzd) with hzd; subst hzd; injection (show some _ = some zd from hzG) with hzG; subst hzG
      exact (pure_callD rfl rfl rfl (rnot_call (d := b)) hM0)
    · injection (show some _ = some zo from hzo) with hzo; subst hzo; injection (show some _ = some zt from hzd) with hzd; subst hzd; injection (show some _ = some zd from hzG) with hzG; subst hzG
      exact (pure_callD rfl rfl rfl (rproduct_call (a := a) (b := notZ b) (e := false) hda hnb.1 (by omega) hm1) hM0)
    · injection (show some _ = some zo from hzo) with hzo; subst hzo; injection (show some _ = some zt from hzd) with hzd; subst hzd; injection (show some _ = some zd from hzG) with hzG; subst hzG
      exact (pure_move rfl rfl)
    · injection (show some _ = some zo from hzo) with hzo; subst hzo; injection (show some _ = some zt from hzd) with hzd; subst hzd; injection (show some _ = some zd from hzG) with hzG; subst hzG
      exact (pure_extract rfl rfl rfl)
    · injection (show some _ = some zo from hzo) with hzo; subst hzo; injection (show some _ = some zt from hzd) with hzd; subst hzd; injection (show some _ = some zd from hzG) with hzG; subst hzG
      exact (pure_extract rfl rfl rfl)
    · first | exact absurd hzn (by decide) | exact absurd hzn2 (by decide)
  · intro zi zo zt zd hzi hzia hzib hzo hzd hzG hzn
    rcases (by omega : zi = 0 ∨ zi = 1 ∨ zi = 2 ∨ zi = 3 ∨ zi = 4 ∨ zi = 5 ∨ zi = 6 ∨ zi = 9) with rfl | rfl | rfl | rfl | rfl | rfl | rfl | rfl
    · first | exact absurd hzn (by decide)
    · first | exact absurd hzn (by decide)
    · first | exact absurd hzn (by decide)
    · first | exact absurd hzn (by decide)
    · first | exact absurd hzn (by decide)
    · first | exact absurd hzn (by decide)
    · injection (show some _ = some zo from hzo) with hzo; subst hzo; injection (show some _ = some zt from hzd) with hzd; subst hzd; injection (show some _ = some zd from hzG) with hzG; subst hzG
      exact (pure_extract rfl rfl rfl)
    · injection (show some _ = some zo from hzo) with hzo; subst hzo; injection (show some _ = some zt from hzd) with hzd; subst hzd; injection (show some _ = some zd from hzG) with hzG; subst hzG
      exact (pure_assign rfl rfl)
  · intro zo X hzo hXn hXG hXr
    injection (show some _ = some zo from hzo) with hzo'
    exact step_allocD (t := 6) (by rw [← hzo']; rfl) (by rw [← hzo']; rfl) rfl rfl hXn ze31 rfl rfl (fun t' z h hne => all_stays (by rfl) (hXG t' z h) hne) rfl hM0
  · intro zo X hzo hXn hXG hXr
    have hXu : 6 ∈ looks _ zo → X.lookup 6 = some (.pbox 6 0) := fun h => (hXr 6 h).trans rfl
    have hXv : 34 ∈ looks _ zo → X.lookup 34 = some (.v .pl (dfa (prodP (ft false) a (notZ b)))) := fun h => (hXr 34 h).trans rfl
    injection (show some _ = some zo from hzo) with hzo'
    exact step_storeE (by rw [← hzo']; rfl) (step_storeD (u := 6) (v := 34) (id := 6) (by rw [← hzo']; rfl) (by rw [← hzo']; rfl) hXn sz31 (hXu (by rw [← hzo']; decide)) rfl (hXv (by rw [← hzo']; decide)) rfl (by decide) rfl rfl (fun t' z h => all_stays0 (by rfl) (hXG t' z h)) rfl hM0)
  refine endL_of (n := 0) (by kernel_rfl) ?_
  refine ex_end (by kernel_rfl) ?_
  refine xD tb hM0 2 [2,3,6] [6] rfl ?_
  refine code_drawE (n := 66) (om := [(6, .box 31 [.v .pl (int ((prodP (ft false) a (notZ b))).size), .v .pl (rowsA ((prodP (ft false) a (notZ b))).next), .v .pl (boolsA ((prodP (ft false) a (notZ b))).fin)]), (8, .box 31 [.v .pl (.sc (.int .i64 0)), .v .pl (.sc (.slice none 0 0)), .v .pl (.sc (.slice none 0 0))])]) (o2 := [(6, .box 31 [.v .pl (int ((prodP (ft false) a (notZ b))).size), .v .pl (rowsA ((prodP (ft false) a (notZ b))).next), .v .pl (boolsA ((prodP (ft false) a (notZ b))).fin)]), (8, .box 31 [.v .pl (int ((prodP (ft false) (notZ a) b)).size), .v .pl (rowsA ((prodP (ft false) (notZ a) b)).next), .v .pl (boolsA ((prodP (ft false) (notZ a) b)).fin)])]) 7 8 10 [(37, .v .mx (dfa a)), (38, .v .pl (dfa (notZ a))), (39, .v .mx (dfa b)), (40, .v .pl (.tup [dfa (prodP (ft false) (notZ a) b), bool true])), (36, .v .pl (.tup [dfa (prodP (ft false) (notZ a) b), bool true])), (41, .v .pl (dfa (prodP (ft false) (notZ a) b))), (42, .v .pl (bool true)), (8, .pbox 8 0), (9, .v .pl (bool true)), (2, .v .mx (dpc a)), (3, .v .mx (dpc b)), (6, .pbox 6 0)] mixed (by kernel_rfl) (by kernel_rfl) (by kernel_rfl) (by kernel_rfl) rfl (by kernel_rfl) rfl (fun t z h => h) rfl ?_ ?_ ?_ ?_ ?_ ?_ ?_
  · intro zi zt hzi hzd
    rcases (by omega : zi = 0 ∨ zi = 1 ∨ zi = 2 ∨ zi = 3 ∨ zi = 4 ∨ zi = 5 ∨ zi = 6 ∨ zi = 7 ∨ zi = 8 ∨ zi = 9) with rfl | rfl | rfl | rfl | rfl | rfl | rfl | rfl | rfl | rfl
    · injection (show some _ = some zt from hzd) with hzd; subst hzd; exact ⟨_, rfl⟩
    · injection (show some _ = some zt from hzd) with hzd; subst hzd; exact ⟨_, rfl⟩
    · injection (show some _ = some zt from hzd) with hzd; subst hzd; exact ⟨_, rfl⟩
    · injection (show some _ = some zt from hzd) with hzd; subst hzd; exact ⟨_, rfl⟩
    · injection (show some _ = some zt from hzd) with hzd; subst hzd; exact ⟨_, rfl⟩
    · injection (show some _ = some zt from hzd) with hzd; subst hzd; exact ⟨_, rfl⟩
    · injection (show some _ = some zt from hzd) with hzd; subst hzd; exact ⟨_, rfl⟩
    · injection (show some _ = some zt from hzd) with hzd; subst hzd; exact ⟨_, rfl⟩
    · cases (show (none : Option Nat) = some zt from hzd)
    · injection (show some _ = some zt from hzd) with hzd; subst hzd; exact ⟨_, rfl⟩
  · intro zi zo zt zd hzi hzia hzib hzo hzd hzG hzn
    rcases (by omega : zi = 0 ∨ zi = 1 ∨ zi = 2 ∨ zi = 3 ∨ zi = 4 ∨ zi = 5 ∨ zi = 6 ∨ zi = 9) with rfl | rfl | rfl | rfl | rfl | rfl | rfl | rfl
    · injection (show some _ = some zo from hzo) with hzo; subst hzo; injection (show some _ = some zt from hzd) with hzd; subst hzd; injection (show some _ = some zd from hzG) with hzG; subst hzG
      exact (pure_norm (pure_load_agg rfl ag31 sz31 rfl (Nat.le_of_ble_eq_true rfl)) rfl)
    · injection (show some _ = some zo from hzo) with hzo; subst hzo; injection (show some _ = some zt from hzd) with hzd; subst hzd; injection (show some _ = some zd from hzG) with hzG; subst hzG
      exact (pure_callD rfl rfl rfl (rnot_call (d := a)) hM0)
    · injection (show some _ = some zo from hzo) with hzo; subst hzo; injection (show some _ = some zt from hzd) with hzd; subst hzd; injection (show some _ = some zd from hzG) with hzG; subst hzG
      exact (pure_norm (pure_load_agg rfl ag31 sz31 rfl (Nat.le_of_ble_eq_true rfl)) rfl)
    · injection (show some _ = some zo from hzo) with hzo; subst hzo; injection (show some _ = some zt from hzd) with hzd; subst hzd; injection (show some _ = some zd from hzG) with hzG; subst hzG
      exact (pure_callD rfl rfl rfl (rproduct_call (a := notZ a) (b := b) (e := false) hna.1 hdb (by omega) hm2) hM0)
    · injection (show some _ = some zo from hzo) with hzo; subst hzo; injection (show some _ = some zt from hzd) with hzd; subst hzd; injection (show some _ = some zd from hzG) with hzG; subst hzG
      exact (pure_move rfl rfl)
    · injection (show some _ = some zo from hzo) with hzo; subst hzo; injection (show some _ = some zt from hzd) with hzd; subst hzd; injection (show some _ = some zd from hzG) with hzG; subst hzG
      exact (pure_extract rfl rfl rfl)
    · injection (show some _ = some zo from hzo) with hzo; subst hzo; injection (show some _ = some zt from hzd) with hzd; subst hzd; injection (show some _ = some zd from hzG) with hzG; subst hzG
      exact (pure_extract rfl rfl rfl)
    · first | exact absurd hzn (by decide)
  · intro zi zo zt zd hzi hzia hzib hzo hzd hzG hzn hzn2
    rcases (by omega : zi = 0 ∨ zi = 1 ∨ zi = 2 ∨ zi = 3 ∨ zi = 4 ∨ zi = 5 ∨ zi = 6 ∨ zi = 9) with rfl | rfl | rfl | rfl | rfl | rfl | rfl | rfl
    · injection (show some _ = some zo from hzo) with hzo; subst hzo; injection (show some _ = some zt from hzd) with hzd; subst hzd; injection (show some _ = some zd from hzG) with hzG; subst hzG
      exact (pure_norm (pure_load_agg rfl ag31 sz31 rfl (Nat.le_of_ble_eq_true rfl)) rfl)
    · injection (show some _ = some zo from hzo) with hzo; subst hzo; injection (show some _ = some zt from hzd) with hzd; subst hzd; injection (show some _ = some zd from hzG) with hzG; subst hzG
      exact (pure_callD rfl rfl rfl (rnot_call (d := a)) hM0)
    · injection (show some _ = some zo from hzo) with hzo; subst hzo; injection (show some _ = some zt from hzd) with hzd; subst hzd; injection (show some _ = some zd from hzG) with hzG; subst hzG
      exact (pure_norm (pure_load_agg rfl ag31 sz31 rfl (Nat.le_of_ble_eq_true rfl)) rfl)
    · injection (show some _ = some zo from hzo) with hzo; subst hzo; injection (show some _ = some zt from hzd) with hzd; subst hzd; injection (show some _ = some zd from hzG) with hzG; subst hzG
      exact (pure_callD rfl rfl rfl (rproduct_call (a := notZ a) (b := b) (e := false) hna.1 hdb (by omega) hm2) hM0)
    · injection (show some _ = some zo from hzo) with hzo; subst hzo; injection (show some _ = some zt from hzd) with hzd; subst hzd; injection (show some _ = some zd from hzG) with hzG; subst hzG
      exact (pure_move rfl rfl)
    · injection (show some _ = some zo from hzo) with hzo; subst hzo; injection (show some _ = some zt from hzd) with hzd; subst hzd; injection (show some _ = some zd from hzG) with hzG; subst hzG
      exact (pure_extract rfl rfl rfl)
    · injection (show some _ = some zo from hzo) with hzo; subst hzo; injection (show some _ = some zt from hzd) with hzd; subst hzd; injection (show some _ = some zd from hzG) with hzG; subst hzG
      exact (pure_extract rfl rfl rfl)
    · first | exact absurd hzn (by decide) | exact absurd hzn2 (by decide)
  · intro zi zo zt zd hzi hzia hzib hzo hzd hzG hzn
    rcases (by omega : zi = 0 ∨ zi = 1 ∨ zi = 2 ∨ zi = 3 ∨ zi = 4 ∨ zi = 5 ∨ zi = 6 ∨ zi = 9) with rfl | rfl | rfl | rfl | rfl | rfl | rfl | rfl
    · first | exact absurd hzn (by decide)
    · first | exact absurd hzn (by decide)
    · first | exact absurd hzn (by decide)
    · first | exact absurd hzn (by decide)
    · first | exact absurd hzn (by decide)
    · first | exact absurd hzn (by decide)
    · injection (show some _ = some zo from hzo) with hzo; subst hzo; injection (show some _ = some zt from hzd) with hzd; subst hzd; injection (show some _ = some zd from hzG) with hzG; subst hzG
      exact (pure_extract rfl rfl rfl)
    · injection (show some _ = some zo from hzo) with hzo; subst hzo; injection (show some _ = some zt from hzd) with hzd; subst hzd; injection (show some _ = some zd from hzG) with hzG; subst hzG
      exact (pure_assign rfl rfl)
  · intro zo X hzo hXn hXG hXr
    injection (show some _ = some zo from hzo) with hzo'
    exact step_allocD (t := 8) (by rw [← hzo']; rfl) (by rw [← hzo']; rfl) rfl rfl hXn ze31 rfl rfl (fun t' z h hne => all_stays (by rfl) (hXG t' z h) hne) rfl hM0
  · intro zo X hzo hXn hXG hXr
    have hXu : 8 ∈ looks _ zo → X.lookup 8 = some (.pbox 8 0) := fun h => (hXr 8 h).trans rfl
    have hXv : 41 ∈ looks _ zo → X.lookup 41 = some (.v .pl (dfa (prodP (ft false) (notZ a) b))) := fun h => (hXr 41 h).trans rfl
    injection (show some _ = some zo from hzo) with hzo'
    exact step_storeE (by rw [← hzo']; rfl) (step_storeD (u := 8) (v := 41) (id := 8) (by rw [← hzo']; rfl) (by rw [← hzo']; rfl) hXn sz31 (hXu (by rw [← hzo']; decide)) rfl (hXv (by rw [← hzo']; decide)) rfl (by decide) rfl rfl (fun t' z h => all_stays0 (by rfl) (hXG t' z h)) rfl hM0)
  refine endL_of (n := 0) (by kernel_rfl) ?_
  refine ex_end (by kernel_rfl) ?_
  refine xD tb hM0 4 [8,44] [8] rfl ?_
  refine oP rfl (pure_call rfl rfl rfl (rleast_call (d := (prodP (ft false) a (notZ b)))) hM0) ?_
  refine xA tb hM0 10 [10,11,49] [] rfl ?_
  refine oP rfl (pure_call rfl rfl rfl (rleast_call (d := (prodP (ft false) (notZ a) b))) hM0) ?_
  refine xA tb hM0 12 [10,12,13,54] [] rfl ?_
  refine spO 54 rfl ?_ ?_ <;> intro h4' <;> try simp only [dq] at h4'
  refine xA tb hM0 3 [10,12,13,54,57] [] rfl ?_
  refine spO 57 rfl ?_ ?_ <;> intro h5' <;> try simp only [dq] at h5'
  refine xA tb hM0 17 [] [] rfl ?_
  refine end2_ret rfl rfl ?_; rotate_left
  refine xA tb hM0 2 [10,12,13,54,57,58,59] [] rfl ?_
  refine oP rfl (pure_call rfl rfl rfl (ahead_call (v := (leastZ (prodP (ft false) a (notZ b))).getD []) (w := (leastZ (prodP (ft false) (notZ a) b)).getD []) least_len least_len) hM0) ?_
  refine xA tb hM0 4 [10,12,13,62] [] rfl ?_
  refine spC 62 rfl ?_ ?_ <;> intro h6 <;> try simp only [dq] at h6
  refine xA tb hM0 10 [] [] rfl ?_
  refine end2_ret rfl rfl ?_; rotate_left
  refine xA tb hM0 12 [] [] rfl ?_
  refine end2_ret rfl rfl ?_; rotate_left
  refine xA tb hM0 22 [] [] rfl ?_
  refine end2_ret rfl rfl ?_; rotate_left
  all_goals
    first
      | (rw [differZ_a (a := a) (b := b) (by assumption)]; exact ⟨rfl, rfl⟩)
      | (rw [differZ_b (a := a) (b := b) (by assumption)]; exact ⟨rfl, rfl⟩)
      | (rw [differZ_f (a := a) (b := b) (fun q => by have := q.2.2; omega)]; exact ⟨rfl, rfl⟩)
      | (rw [hrd, pick_v (by assumption) (.inl (by assumption)), show (leastZ (prodP (ft false) a (notZ b))).isSome = true from by assumption]; exact ⟨rfl, rfl⟩)
      | (rw [hrd, pick_v (by assumption) (.inr (by assumption)), show (leastZ (prodP (ft false) a (notZ b))).isSome = true from by assumption]; exact ⟨rfl, rfl⟩)
      | (rw [hrd, pick_w (.inl (by assumption))]; exact ⟨rfl, rfl⟩)
      | (rw [hrd, pick_w (.inr ⟨by assumption, by assumption⟩)]; exact ⟨rfl, rfl⟩)
end Go.Proofs.YtjimlkpfmbachaaGreat

namespace Go.Proofs.YtjimlkpfmbachaaGreat
open Go.Am Go.Wc Go.Wb Go.Wd
set_option linter.unusedVariables false
set_option linter.unusedSimpArgs false
theorem keyed74 : Maps.Keyed Tryz.prog 74 := .of_law (deep_law_laid (P := Tryz.prog) (m := 2) (by kernel_rfl) (by omega) (of_decide_eq_true (by kernel_rfl)) (by kernel_rfl) (by kernel_rfl))
theorem pk_ok {x : Nat × Nat} (h : smallP x) : ∃ l, keyOf Tryz.prog 74 (kvP x) = some l :=
  keyOf_pair (n := Tryz.prog.types.size - 1) Tryz.underlying74 Tryz.underlying3 sz74 sz3 (by kernel_rfl) (by kernel_rfl)
    (by have := h.1; simp only [Lit.wf, Bool.and_eq_true, decide_eq_true_eq]; exact ⟨Int.le_trans (by decide) (Int.natCast_nonneg _), by show (x.1 : Int) ≤ 9223372036854775807; omega⟩) (by have := h.2; simp only [Lit.wf, Bool.and_eq_true, decide_eq_true_eq]; exact ⟨Int.le_trans (by decide) (Int.natCast_nonneg _), by show (x.2 : Int) ≤ 9223372036854775807; omega⟩)
theorem fn58 : Fn2 Tryz.prog 58 Tryz.f58.ntmps 8 9 (Tryz.f58.body.getD .skip) := ⟨Tryz.f58, Tryz.func58, rfl, rfl, rfl, by kernel_rfl⟩
set_option maxRecDepth 100000 in
set_option maxHeartbeats 8000000 in
theorem searchP_call {next : Nat × Nat → Nat → Nat × Nat} {good : Nat × Nat → Bool} {size N : Nat} {start : Nat × Nat} {sz : Int} {U : List (Nat × Nat)} {g h : FuncId} {cg ch : List AV} (hsz : 1 ≤ size ∧ size ≤ 64) (hU : ∀ x ∈ U, ∀ s, s < size → next x s ∈ U) (h0 : start ∈ U) (hN : U.length ≤ N) (hB : U.length ≤ 4194304) (hz : (size : Int) = sz) (hS : ∀ x ∈ U, smallP x)
    (hg : ∀ x ∈ U, ∀ s, s < size → CallF Tryz.prog g ([pairI x, natI s] ++ cg) (.p (pairI (next x s)))) (hh : ∀ x ∈ U, CallF Tryz.prog h ([pairI x] ++ ch) (.p (bool (good x)))) :
    CallF Tryz.prog 58 [pairI start, int sz, .clo g cg, .clo h ch] (.p (.tup [resW (seekW next size good (N + 1) 0 [(start, [])]), bool (seekW next size good (N + 1) 0 [(start, [])]).isSome])) := by
  subst hz
  refine callF_of_code2 fn58 (Nat.le_of_ble_eq_true rfl) fun w0 M0 hM0 => ?_
  refine xC tb hM0 2 [0,1,2,3] [] rfl ?_
  refine oP rfl (pure_box rfl rfl rfl hM0) ?_
  refine xA tb hM0 6 [1,2,3,4] [] rfl ?_
  refine oS rfl (step_map rfl rfl rfl rfl rfl Tryz.underlying106 (fun q hq => by cases hq <;> exact ⟨_, _, rfl⟩) hM0) rfl ?_
  refine xA tb hM0 1 [1,2,3,4,17,18] [17] rfl ?_
  refine oS rfl (step_insert rfl (step_putK keyed74 rfl rfl rfl Tryz.underlying106 rfl rfl rfl rfl ((pk_ok (hS _ h0)).choose_spec) (fun q hq => by cases hq) (List.nodup_nil) hM0)) rfl ?_
  refine xA tb hM0 6 [1,2,3,4,10] [17] rfl ?_
  refine oP rfl (pure_aggl (pure_load_agg rfl ag74 sz74 rfl (Nat.le_of_ble_eq_true rfl)) rfl) ?_
  refine xA tb hM0 1 [1,2,3,10,21] [17] rfl ?_
  refine oS rfl (step_lit rfl rfl rfl rfl Tryz.underlying109 el108 rfl rfl rfl rfl hM0) rfl ?_
  refine xA tb hM0 10 [1,2,3,10,11,12] [17,22] rfl ?_
  refine lp (fun zm zs => ∃ (T : List (Stp (Nat × Nat))) (P : List (Pth (Nat × Nat))) (i : Nat), zm = N + 1 - i ∧ (Sr next size start U good N T P i) ∧ zs = ⟨85, [(1, .v .mx (natI size)), (2, .v .mx (.clo g cg)), (3, .v .mx (.clo h ch)), (10, .omap 17), (11, .own 22), (12, .v .pl (int i))], [(17, .mp (ksW kvP P) (vsW P.length)), (22, .arr 108 (T.map stpP))]⟩) ?_ ?_
  refine ⟨_, [(start, -1, 0)], [(start, [])], 0, rfl, sr_start h0, ?_⟩
  rfl
  rintro zm zs ⟨T, P, i, rfl, hL1_0, rfl⟩
  have hSr := hL1_0
  have hle := hSr.le
  have htl := hSr.tr.len
  have hpl := sk_len hSr.sk
  refine xA tb hM0 5 [1,2,3,10,11,12,23,24] [17,22] rfl ?_
  refine oP rfl (pure_lenm rfl Tryz.underlying109 rfl) ?_
  refine xA tb hM0 3 [1,2,3,10,11,12,26] [17,22] rfl ?_
  refine spC 26 rfl ?_ ?_ <;> intro h1 <;> try simp only [dq] at h1
  refine xA tb hM0 7 [1,2,3,10,11,12] [17,22] rfl ?_
  have hi : i < P.length := by omega
  have hxU : (P.getD i default).1 ∈ U := hSr.sk.sub _ (el_mem hi)
  refine xA tb hM0 4 [1,2,3,10,11,12,29,30,31] [17,22] rfl ?_
  refine oP rfl (pure_index_own rfl Tryz.underlying109 sz108 rfl rfl rfl (by rw [List.length_map]; omega)) ?_
  refine oP rfl (pure_field_pel rfl fd108_0 rfl rfl) ?_
  refine xA tb hM0 0 [1,2,3,10,11,12,29,33] [17,22] rfl ?_
  refine oP rfl (pure_load_pel_part rfl ag74 sz74 rfl rfl sz108 (by decide) (mget (by omega))) ?_
  refine oP rfl (pure_call rfl rfl rfl (by have e : (T.getD (i : Int).toNat default).1 = (P.getD i default).1 := hSr.tr.key i hi; show CallF _ _ ([pairI (T.getD (i : Int).toNat default).1] ++ ch) _; rw [e]; exact hh _ hxU) hM0) ?_
  refine xA tb hM0 2 [1,2,3,10,11,12,35] [17,22] rfl ?_
  refine spC 35 rfl ?_ ?_ <;> intro h2 <;> try simp only [dq] at h2
  have hgd : good (P.getD i default).1 = true := by assumption
  have hres := hSr.hit hN hi hgd
  refine xA tb hM0 3 [11,12] [22] rfl ?_
  refine oS rfl (step_nil rfl rfl rfl rfl rfl 3 hM0) rfl ?_
  refine xA tb hM0 10 [11,13,14] [13,22] rfl ?_
  refine lp (fun zm zs => ∃ (at_ : Nat) (ws : List Nat), zm = i + at_ ∧ (at_ ≤ i) ∧ (ws.length + at_ ≤ i) ∧ ((P.getD i default).2 = (P.getD at_ default).2 ++ ws.reverse) ∧ zs = ⟨85, [(11, .own 22), (13, .own 13), (14, .v .pl (int at_))], [(13, .arr 3 ((natL ws).map int)), (22, .arr 108 (T.map stpP))]⟩) ?_ ?_
  exact ⟨_, i, [], rfl, Nat.le_refl _, by simp, by simp, rfl⟩
  rintro zm zs ⟨at_, ws, rfl, hL2_0, hL2_1, hL2_2, rfl⟩
  refine xA tb hM0 5 [11,13,14,37,38] [13,22] rfl ?_
  refine oP rfl (pure_index_own rfl Tryz.underlying109 sz108 rfl rfl rfl (by rw [List.length_map]; omega)) ?_
  refine oP rfl (pure_field_pel rfl fd108_1 rfl rfl) ?_
  refine xA tb hM0 0 [11,13,14,40] [13,22] rfl ?_
  refine oP rfl (pure_load_pel rfl ag3 rfl rfl (mget (by omega)) rfl) ?_
  refine xA tb hM0 3 [11,13,14,42] [13,22] rfl ?_
  refine spC 42 rfl ?_ ?_ <;> intro h3 <;> try simp only [dq] at h3
  have hw := hSr.tr.way at_ (by omega)
  obtain ⟨f, t, hf1, hf2, hf3, hf4⟩ : ∃ f s : Nat, f < at_ ∧ (T.getD at_ default).2.1 = (f : Int) ∧ (T.getD at_ default).2.2 = (s : Int) ∧ (P.getD at_ default).2 = (P.getD f default).2 ++ [s] := hw.resolve_left (fun q => by omega)
  refine xA tb hM0 9 [11,14,48,49,50] [13,22] rfl ?_
  refine oP rfl (pure_index_own rfl Tryz.underlying109 sz108 rfl rfl rfl (by rw [List.length_map]; omega)) ?_
  refine oP rfl (pure_field_pel rfl fd108_2 rfl rfl) ?_
  refine xA tb hM0 0 [11,14,48,52] [13,22] rfl ?_
  refine oP rfl (pure_load_pel rfl ag3 rfl rfl (mget (by omega)) rfl) ?_
  refine oP rfl (pure_lit rfl Tryz.underlying22 el3 rfl rfl rfl rfl hM0) ?_
  refine xA tb hM0 0 [11,14,48,54] [13,22] rfl ?_
  refine oS rfl (step_append rfl rfl rfl rfl Tryz.underlying22 el3 rfl rfl hM0 (src_pl rfl (one_len (by rfl))) (by simp only [List.length_map, List.length_cons, List.length_nil]; omega) (by simp only [List.length_map, List.length_cons, List.length_nil]; omega)) rfl ?_
  refine xA tb hM0 7 [11,13,43,44] [13,22] rfl ?_
  refine oP rfl (pure_index_own rfl Tryz.underlying109 sz108 rfl rfl rfl (by rw [List.length_map]; omega)) ?_
  refine oP rfl (pure_field_pel rfl fd108_1 rfl rfl) ?_
  refine xA tb hM0 0 [11,13,46] [13,22] rfl ?_
  refine oP rfl (pure_load_pel rfl ag3 rfl rfl (mget (by omega)) rfl) ?_
  refine xA tb hM0 2 [11,13,14] [13,22] rfl ?_
  refine nx ?_
  refine ⟨_, ⟨f, ws ++ [t], rfl, by omega, by simp only [List.length_append, List.length_cons, List.length_nil]; omega, by rw [hL2_2, hf4]; simp, ?_⟩, by omega⟩
  rw [← hf2, natL_snoc, List.map_append, ← hf3]; rfl
  have hw2 : (P.getD at_ default).2 = [] := (hSr.tr.way at_ (by omega)).elim (fun q => q.2) (fun ⟨f, t, q1, q2, q3, q4⟩ => by omega)
  refine xA tb hM0 7 [13] [13] rfl ?_
  have hres2 : (P.getD i default).2 = ws.reverse := by rw [hL2_2, hw2]; rfl
  refine xA tb hM0 2 [13,56] [13] rfl ?_
  refine oS rfl (step_revI revsI rfl rfl rfl rfl rfl rfl sz3 (by rw [List.length_map]; omega) hM0) rfl ?_
  refine xA tb hM0 16 [] [] rfl ?_
  refine end2_ret rfl rfl ?_
  rw [hres]
  refine ⟨?_, rfl⟩
  show AV.sl (((natL ws).reverse).map int) = nats (P.getD i default).2
  rw [hres2, show (natL ws).reverse = natL ws.reverse from List.map_reverse.symm, natL_nats]
  have hgd : good (P.getD i default).1 = false := by assumption
  refine xA tb hM0 10 [1,2,3,10,11,12,59,60] [17,22] rfl ?_
  refine lp (fun zm zs => ∃ (T2 : List (Stp (Nat × Nat))) (s : Nat), zm = size - s ∧ (s ≤ size) ∧ (Tr T2 (growW next (P.getD i default) P s)) ∧ zs = ⟨85, [(1, .v .mx (natI size)), (2, .v .mx (.clo g cg)), (3, .v .mx (.clo h ch)), (10, .omap 17), (11, .own 22), (12, .v .pl (int i)), (59, .v .mx (natI size)), (60, .v .pl (int s))], [(17, .mp (ksW kvP (growW next (P.getD i default) P s)) (vsW (growW next (P.getD i default) P s).length)), (22, .arr 108 (T2.map stpP))]⟩) ?_ ?_
  exact ⟨_, T, 0, rfl, Nat.zero_le _, hSr.tr, rfl⟩
  rintro zm zs ⟨T2, s, rfl, hL3_0, hL3_1, rfl⟩
  have hgr := hSr.grow hU hi hL3_0
  have hgl := hgr.2.length_le
  have hgu := hgr.1
  have htl2 := hL3_1.len
  have hPi : (growW next (P.getD i default) P s).getD i default = (P.getD i default) := pre_at hgr.2 hi
  have hT2 : (T2.getD i default).1 = (P.getD i default).1 := (hL3_1.key i (by omega)).trans (congrArg Prod.fst hPi)
  have hsk := (hSr.sk.grow hU (pth_get hi) s hL3_0).1
  have hnd2 := hsk.nodup
  have hsb : ∀ z ∈ keysW (growW next (P.getD i default) P s), z ∈ U := fun z hz => by obtain ⟨p, hp, rfl⟩ := List.mem_map.1 hz; exact hsk.sub p hp
  have hkn : s < size → ∃ l, keyOf Tryz.prog 74 (kvP (next (P.getD i default).1 s)) = some l := fun h => pk_ok (hS _ (hU _ hxU s h))
  refine xA tb hM0 6 [1,2,3,10,11,12,59,60,61] [17,22] rfl ?_
  refine spC 61 rfl ?_ ?_ <;> intro h4 <;> try simp only [dq] at h4
  refine xA tb hM0 16 [1,2,3,10,11,12,15,59,60,63,64,65] [17,22] rfl ?_
  refine oP rfl (pure_index_own rfl Tryz.underlying109 sz108 rfl rfl rfl (by rw [List.length_map]; omega)) ?_
  refine oP rfl (pure_field_pel rfl fd108_0 rfl rfl) ?_
  refine xA tb hM0 0 [1,2,3,10,11,12,15,59,60,63,67] [17,22] rfl ?_
  refine oP rfl (pure_load_pel_part rfl ag74 sz74 rfl rfl sz108 (by decide) (mget (by omega))) ?_
  refine xA tb hM0 1 [1,2,3,10,11,12,15,59,60,63,68,69] [17,22] rfl ?_
  refine oP rfl (pure_call rfl rfl rfl (by have e : (T2.getD (i : Int).toNat default).1 = (P.getD i default).1 := hT2; show CallF _ _ ([pairI (T2.getD (i : Int).toNat default).1, natI s] ++ cg) _; rw [e]; exact hg _ hxU s (by omega)) hM0) ?_
  refine xA tb hM0 8 [1,2,3,10,11,12,15,16,59,60,71,72] [16,17,22] rfl ?_
  refine oP rfl (pure_scl (pure_mlookK keyed74 rfl Tryz.underlying106 zv4 rfl rfl rfl (hkn (by omega)).choose_spec (fun q hq => by obtain ⟨z, hz, rfl⟩ := List.mem_map.1 hq; exact pk_ok (hS z (hsb z hz))) (nodup_kv kvP_inj hnd2) (look_w (kv := kvP) kvP_inj _ _))) ?_
  refine xA tb hM0 3 [1,2,3,10,11,12,15,16,59,60,74] [16,17,22] rfl ?_
  refine spC 74 rfl ?_ ?_ <;> intro h5 <;> try simp only [dq] at h5
  refine xA tb hM0 5 [1,2,3,10,11,12,15,16,59,60,75,76] [16,17,22] rfl ?_
  refine oS rfl (step_putK keyed74 rfl rfl rfl Tryz.underlying106 rfl rfl rfl rfl ((hkn (by omega)).choose_spec) (fun q hq => by obtain ⟨z, hz, rfl⟩ := List.mem_map.1 hq; exact pk_ok (hS z (hsb z hz))) (nodup_kv kvP_inj hnd2) hM0) rfl ?_
  refine xA tb hM0 8 [1,2,3,10,12,59,60,77,81] [17,22] rfl ?_
  refine oP rfl (pure_lit rfl Tryz.underlying109 el108 rfl rfl rfl rfl hM0) ?_
  refine oS rfl (step_append rfl rfl rfl rfl Tryz.underlying109 el108 rfl rfl hM0 (src_pl rfl (one_len (by rfl))) (by rw [List.length_map]; simp only [List.length_cons, List.length_nil]; omega) (by rw [List.length_map]; simp only [List.length_cons, List.length_nil]; omega)) rfl ?_
  refine xA tb hM0 5 [1,2,3,10,11,12,59,60] [17,22] rfl ?_
  refine oP rfl (pure_addi rfl rfl rfl (by omega)) ?_
  refine xA tb hM0 2 [1,2,3,10,11,12,59,60] [17,22] rfl ?_
  refine nx ?_
  have hnew : next (P.getD i default).1 s ∉ keysW (growW next (P.getD i default) P s) := by assumption
  have hsn := hL3_1.snoc (k := next (P.getD i default).1 s) (i := i) (s := s) (by omega)
  rw [hPi] at hsn
  refine ⟨_, ⟨T2 ++ [(next (P.getD i default).1 s, (i : Int), (s : Int))], s + 1, rfl, by omega, by rw [growW_new hnew]; exact hsn, ?_⟩, by omega⟩
  rw [growW_new hnew, ← put_kw (kv := kvP) kvP_inj hnew, ← put_vw (kv := kvP) kvP_inj hnew, List.map_append]; rfl
  refine xA tb hM0 5 [1,2,3,10,11,12,59,60] [17,22] rfl ?_
  refine oP rfl (pure_addi rfl rfl rfl (by omega)) ?_
  refine xA tb hM0 2 [1,2,3,10,11,12,59,60] [17,22] rfl ?_
  refine nx ?_
  have hold : next (P.getD i default).1 s ∈ keysW (growW next (P.getD i default) P s) := by assumption
  exact ⟨_, ⟨T2, s + 1, rfl, by omega, by rw [growW_old hold]; exact hL3_1, by rw [growW_old hold]; rfl⟩, by omega⟩
  refine xA tb hM0 7 [1,2,3,10,11,12] [17,22] rfl ?_
  obtain rfl : size = s := by omega
  refine xA tb hM0 2 [1,2,3,10,11,27] [17,22] rfl ?_
  refine oP rfl (pure_addi rfl rfl rfl (by omega)) ?_
  refine xA tb hM0 2 [1,2,3,10,11,12] [17,22] rfl ?_
  refine nx ?_
  exact ⟨_, ⟨T2, (growW next (P.getD i default) P size), i + 1, rfl, hSr.step hU hN hi hgd hL3_1, rfl⟩, by omega⟩
  refine xA tb hM0 13 [] [] rfl ?_
  refine end2_ret rfl rfl ?_
  rw [hSr.miss (by omega)]
  exact ⟨rfl, rfl⟩
end Go.Proofs.YtjimlkpfmbachaaGreat

namespace Go.Proofs.YtjimlkpfmbachaaGreat
open Go.Am Go.Wc Go.Wb Go.Wd
set_option linter.unusedVariables false
set_option linter.unusedSimpArgs false
theorem fn98 : FnC Tryz.prog 98 Tryz.f98.ntmps 6 74 2 (Tryz.f98.body.getD .skip) := ⟨Tryz.f98, Tryz.func98, rfl, rfl, rfl, by kernel_rfl, ag74, sz74⟩
set_option maxRecDepth 100000 in
set_option maxHeartbeats 2000000 in
theorem steps1_call {a b : Dfa} {x : Nat × Nat} {s : Nat} (ha : okD a) (hb : okD b) (hk : a.size = b.size) (hx : x.1 < a.next.length ∧ x.2 < b.next.length) (hs : s < a.k) : CallF Tryz.prog 98 ([pairI x, natI s] ++ [dpc a, dpc b]) (.p (pairI (pnext a b x s))) := by
  have hka := kk ha
  have hkb := kk hb
  have hra := (ha.row hx.1).1
  have hrb := (hb.row hx.2).1
  refine callF_of_codeC fn98 (Nat.le_of_ble_eq_true rfl) fun w0 M0 hM0 => ?_
  refine xC tb hM0 2 [0,1,2,3] [] rfl ?_
  refine oP rfl (pure_box rfl rfl rfl hM0) ?_
  refine xA tb hM0 4 [1,2,3,4,6] [6] rfl ?_
  refine code_draw mixed (by kernel_rfl) _ rfl ?_
  refine dl_pure rfl rfl rfl (pure_field rfl fd31_1 rfl) ?_
  refine dl_pure rfl rfl rfl (pure_load rfl ag28 rfl rfl) ?_
  refine dl_pure rfl rfl rfl (pure_index_pc rfl Tryz.underlying74 sz3 rfl rfl (by decide)) ?_
  refine dl_pure rfl rfl rfl (pure_load rfl ag3 rfl rfl) ?_
  refine dl_pure rfl rfl rfl (pure_ix rfl Tryz.underlying28 sz22 rfl rfl (by exact ⟨Int.natCast_nonneg _, Int.ofNat_lt.2 hx.1⟩) (fun _ => rfl)) ?_
  refine dl_pure rfl rfl rfl (pure_load rfl ag22 rfl rfl) ?_
  refine dl_pure rfl rfl rfl (pure_move rfl rfl) ?_
  refine dpk 26 [(1,_),(3,_),(4,_),(6,_),(12,_),(13,_)] [(6,_)] rfl rfl rfl ?_
  refine dl_pure rfl rfl rfl (pure_ix rfl Tryz.underlying22 sz3 rfl rfl (by exact ⟨Int.natCast_nonneg _, Int.ofNat_lt.2 (show s < _ by omega)⟩) (fun _ => rfl)) ?_
  refine dl_pure rfl rfl rfl (pure_load rfl ag3 rfl rfl) ?_
  refine dl_pure rfl rfl rfl (pure_field rfl fd31_1 rfl) ?_
  refine dl_pure rfl rfl rfl (pure_load rfl ag28 rfl rfl) ?_
  refine dl_pure rfl rfl rfl (pure_index_pc rfl Tryz.underlying74 sz3 rfl rfl (by decide)) ?_
  refine dl_pure rfl rfl rfl (pure_load rfl ag3 rfl rfl) ?_
  refine dl_pure rfl rfl rfl (pure_ix rfl Tryz.underlying28 sz22 rfl rfl (by exact ⟨Int.natCast_nonneg _, Int.ofNat_lt.2 hx.2⟩) (fun _ => rfl)) ?_
  refine dpk 26 [(1,_),(6,_),(15,_),(20,_)] [(6,_)] rfl rfl rfl ?_
  refine dl_pure rfl rfl rfl (pure_load rfl ag22 rfl rfl) ?_
  refine dl_pure rfl rfl rfl (pure_move rfl rfl) ?_
  refine dl_pure rfl rfl rfl (pure_ix rfl Tryz.underlying22 sz3 rfl rfl (by exact ⟨Int.natCast_nonneg _, Int.ofNat_lt.2 (show s < _ by omega)⟩) (fun _ => rfl)) ?_
  refine dl_pure rfl rfl rfl (pure_load rfl ag3 rfl rfl) ?_
  refine dl_pure rfl rfl rfl (pure_build2 rfl Tryz.underlying74 sz3 ze74 rfl rfl rfl rfl) ?_
  refine dl_tails (by kernel_rfl) ?_
  refine tl_step rfl (step_store_box rfl rfl rfl sz74 rfl rfl rfl rfl (by decide) rfl rfl hM0) ?_
  refine tl_nil ?_
  refine xD tb hM0 2 [] [] rfl ?_
  refine endC_ret rfl ?_
  have e1 := ha.cellN hx.1 (k := s) (by omega)
  have e2 := hb.cellN hx.2 (k := s) (by omega)
  have e3 : pairI (pnext a b x s) = .agg [int ((a.next.getD x.1 default).getD s default), int ((b.next.getD x.2 default).getD s default)] := by rw [e1, e2]; rfl
  exact (by rw [e3]; first | done | rfl)
theorem fn59 : Fn1 Tryz.prog 59 Tryz.f59.ntmps 4 (Tryz.f59.body.getD .skip) := ⟨Tryz.f59, Tryz.func59, rfl, rfl, rfl, by kernel_rfl⟩
set_option maxRecDepth 100000 in
theorem steps_call {a b : Dfa} : CallN Tryz.prog 59 [dfa a, dfa b] (.p (.clo 98 [dpc a, dpc b])) := by
  refine callN_of_code fn59 (Nat.le_of_ble_eq_true rfl) fun w0 M0 hM0 => ?_
  refine xC tb hM0 2 [0,1] [] rfl ?_
  refine oP rfl (pure_box rfl rfl rfl hM0) ?_
  refine oP rfl (pure_box rfl rfl rfl hM0) ?_
  refine xA tb hM0 5 [2,3] [] rfl ?_
  refine oP rfl (pure_func rfl rfl) ?_
  refine xA tb hM0 4 [] [] rfl ?_
  refine end_ret rfl ?_
  rfl
theorem fn60 : Fn1 Tryz.prog 60 Tryz.f60.ntmps 4 (Tryz.f60.body.getD .skip) := ⟨Tryz.f60, Tryz.func60, rfl, rfl, rfl, by kernel_rfl⟩
set_option maxRecDepth 100000 in
set_option maxHeartbeats 2000000 in
theorem differ1_call {a b : Dfa} {x : Nat × Nat} (hx : x.1 < a.fin.length ∧ x.2 < b.fin.length) : CallF Tryz.prog 60 ([pairI x] ++ [dpc a, dpc b]) (.p (bool (dgood a b x))) := by
  refine callF_of_code fn60 (Nat.le_of_ble_eq_true rfl) fun w0 M0 hM0 => ?_
  refine xC tb hM0 2 [0,1,2] [] rfl ?_
  refine oP rfl (pure_box rfl rfl rfl hM0) ?_
  refine xA tb hM0 4 [1,2,3] [] rfl ?_
  refine code_draw mixed (by kernel_rfl) _ rfl ?_
  refine dl_pure rfl rfl rfl (pure_field rfl fd31_2 rfl) ?_
  refine dl_pure rfl rfl rfl (pure_load rfl ag29 rfl rfl) ?_
  refine dl_pure rfl rfl rfl (pure_index_pc rfl Tryz.underlying74 sz3 rfl rfl (by decide)) ?_
  refine dl_pure rfl rfl rfl (pure_load rfl ag3 rfl rfl) ?_
  refine dl_pure rfl rfl rfl (pure_ix rfl Tryz.underlying29 sz4 rfl rfl (by exact ⟨Int.natCast_nonneg _, Int.ofNat_lt.2 hx.1⟩) (fun _ => rfl)) ?_
  refine dl_pure rfl rfl rfl (pure_load rfl ag4 rfl rfl) ?_
  refine dl_pure rfl rfl rfl (pure_field rfl fd31_2 rfl) ?_
  refine dpk 18 [(3,_),(10,_),(11,_)] [] rfl rfl rfl ?_
  refine dl_pure rfl rfl rfl (pure_load rfl ag29 rfl rfl) ?_
  refine dl_pure rfl rfl rfl (pure_index_pc rfl Tryz.underlying74 sz3 rfl rfl (by decide)) ?_
  refine dl_pure rfl rfl rfl (pure_load rfl ag3 rfl rfl) ?_
  refine dl_pure rfl rfl rfl (pure_ix rfl Tryz.underlying29 sz4 rfl rfl (by exact ⟨Int.natCast_nonneg _, Int.ofNat_lt.2 hx.2⟩) (fun _ => rfl)) ?_
  refine dl_pure rfl rfl rfl (pure_load rfl ag4 rfl rfl) ?_
  refine dl_pure rfl rfl rfl (pure_bne Tryz.underlying4 rfl rfl rfl) ?_
  refine dl_pure rfl rfl rfl (pure_assign rfl rfl) ?_
  refine dl_nil ?_
  refine xD tb hM0 2 [] [] rfl ?_
  refine end_ret rfl ?_
  rfl
theorem fn18 : Fn2 Tryz.prog 18 Tryz.f18.ntmps 4 5 (Tryz.f18.body.getD .skip) := ⟨Tryz.f18, Tryz.func18, rfl, rfl, rfl, by kernel_rfl⟩
set_option maxRecDepth 100000 in
set_option maxHeartbeats 4000000 in
theorem differ_call {a b : Dfa} (hn : a.next.length * b.next.length ≤ 4194304) : CallF Tryz.prog 18 [dfa a, dfa b] (.p (.tup [resW (differZ a b), bool (differZ a b).isSome])) := by
  refine callF_of_code2 fn18 (Nat.le_of_ble_eq_true rfl) fun w0 M0 hM0 => ?_
  refine xC tb hM0 2 [0,1] [] rfl ?_
  refine oP rfl (pure_box rfl rfl rfl hM0) ?_
  refine oP rfl (pure_box rfl rfl rfl hM0) ?_
  refine xA tb hM0 8 [2,3,6] [] rfl ?_
  refine oP rfl (pure_call rfl rfl rfl (validD_call (d := a)) hM0) ?_
  refine xA tb hM0 2 [2,3,9] [] rfl ?_
  refine spO 9 rfl ?_ ?_ <;> intro h1' <;> try simp only [dq] at h1'
  refine xA tb hM0 22 [] [] rfl ?_
  refine end2_ret rfl rfl ?_; rotate_left
  refine xA tb hM0 1 [2,3,9,10] [] rfl ?_
  refine oP rfl (pure_call rfl rfl rfl (validD_call (d := b)) hM0) ?_
  refine xA tb hM0 3 [2,3,14] [] rfl ?_
  refine spO 14 rfl ?_ ?_ <;> intro h2' <;> try simp only [dq] at h2'
  refine xA tb hM0 17 [] [] rfl ?_
  refine end2_ret rfl rfl ?_; rotate_left
  refine xA tb hM0 8 [2,3,20] [] rfl ?_
  refine spC 20 rfl ?_ ?_ <;> intro h3 <;> try simp only [dq] at h3
  refine xA tb hM0 9 [] [] rfl ?_
  refine end2_ret rfl rfl ?_; rotate_left
  have hda := valid_ok (d := a) (by assumption)
  have hdb := valid_ok (d := b) (by assumption)
  have hba := hda.1
  have hbb := hdb.1
  have hka := kk hda
  have hkb := kk hdb
  have hna : a.n = a.next.length := rfl
  have hnb : b.n = b.next.length := rfl
  have hse : a.size = b.size := by omega
  have hkk : a.k = b.k := by omega
  refine xA tb hM0 4 [2,3] [] rfl ?_
  refine code_draw mixed (by kernel_rfl) _ rfl ?_
  refine dl_pure rfl rfl rfl (pure_build0 rfl Tryz.underlying74 sz3 ze74 rfl rfl) ?_
  refine dl_pure rfl rfl rfl (pure_field rfl fd31_0 rfl) ?_
  refine dl_pure rfl rfl rfl (pure_load rfl ag3 rfl rfl) ?_
  refine dl_pure rfl rfl rfl (pure_load_agg rfl ag31 sz31 rfl (Nat.le_of_ble_eq_true rfl)) ?_
  refine dl_pure rfl rfl rfl (pure_load_agg rfl ag31 sz31 rfl (Nat.le_of_ble_eq_true rfl)) ?_
  refine dl_pure rfl rfl rfl (pure_callN rfl rfl rfl rfl (steps_call) hM0) ?_
  refine dl_pure rfl rfl rfl (pure_func rfl rfl) ?_
  refine dpk 31 [(21,_),(23,_),(26,_),(27,_)] [] rfl rfl rfl ?_
  refine dl_pure rfl rfl rfl (pure_call rfl rfl rfl (searchP_call (U := pairs a.n b.n) (next := pnext a b) (good := dgood a b) (size := a.k) (N := a.n * b.n) (start := (0, 0)) ⟨by omega, by omega⟩ (pnext_mem hda hdb hkk) (pairs_mem.2 ⟨by omega, by omega⟩) (by rw [pairs_len]; exact Nat.le_refl _) (by rw [pairs_len]; exact hn) hka.1 (fun x hx => by have h := pairs_mem.1 (show (x.1, x.2) ∈ _ from hx); exact ⟨by have := h.1; omega, by have := h.2; omega⟩) (fun x hx s hs => by have h := pairs_mem.1 (show (x.1, x.2) ∈ _ from hx); exact steps1_call hda hdb hse h hs) (fun x hx => by have h := pairs_mem.1 (show (x.1, x.2) ∈ _ from hx); exact differ1_call ⟨by have := h.1; omega, by have := h.2; omega⟩)) hM0) ?_
  refine dl_pure rfl rfl rfl (pure_extract rfl rfl rfl) ?_
  refine dl_pure rfl rfl rfl (pure_extract rfl rfl rfl) ?_
  refine dl_pure rfl rfl rfl (pure_assign rfl rfl) ?_
  refine dl_pure rfl rfl rfl (pure_assign rfl rfl) ?_
  refine dl_nil ?_
  refine xD tb hM0 2 [] [] rfl ?_
  refine end2_ret rfl rfl ?_; rotate_left
  all_goals
    first
      | (rw [differZ_a (a := a) (b := b) (by assumption)]; exact ⟨rfl, rfl⟩)
      | (rw [differZ_b (a := a) (b := b) (by assumption)]; exact ⟨rfl, rfl⟩)
      | (rw [differZ_f (a := a) (b := b) (fun q => by have := q.2.2; omega)]; exact ⟨rfl, rfl⟩)
      | (rw [differZ_t (a := a) (b := b) (by assumption) (by assumption) hse]; exact ⟨rfl, rfl⟩)
end Go.Proofs.YtjimlkpfmbachaaGreat

