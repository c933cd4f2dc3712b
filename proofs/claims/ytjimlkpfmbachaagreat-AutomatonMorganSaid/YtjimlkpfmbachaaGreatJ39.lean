/-
  De Morgan: for all pairs of automata over the same symbols, the complement of the intersection is the union of the complements; two complements, and two reversals, lead to Min; the numbers of words of a and b are those of the intersection and the union (wordbooklaw08, AutomatonMorgan).
-/
import Derived.Test.YtjimlkpfmbachaaGreatJ38
import Derived.Test.YtjimlkpfmbachaaGreatJ36
import Derived.Test.YtjimlkpfmbachaaGreatJ37
set_option linter.unusedVariables false
set_option linter.unusedSectionVars false
set_option linter.unusedSimpArgs false
namespace Go.Proofs.YtjimlkpfmbachaaGreat
open Go.Am Go.Wc Go.Wb Go.Wd
set_option linter.unusedVariables false
set_option linter.unusedSimpArgs false
theorem notZ_p {d : Dfa} (h : okD d) : notZ d = notP d := by
  rw [notZ_t (ok_valid h), minZ_t (ok_valid (flip_ok h))]; rfl
theorem fn6 : Fn1 Tryz.prog 6 Tryz.f6.ntmps 6 (Tryz.f6.body.getD .skip) := ⟨Tryz.f6, Tryz.func6, rfl, rfl, rfl, by kernel_rfl⟩
set_option maxRecDepth 100000 in
set_option maxHeartbeats 8000000 in
theorem morgan_law {l m : List Int} {z : Int} (hl : I64s l) (hm : I64s m) (hz : I64 z) : CallF Tryz.prog 6 [ints l, ints m, int z] (.p (bool true)) := by
  obtain ⟨A, hAe⟩ : ∃ A, A = dfaP l := ⟨_, rfl⟩
  have hA : okD A ∧ A.n ≤ 7 := by rw [hAe]; exact dfa_ok l
  have hsz : 1 ≤ A.size ∧ A.size ≤ 64 := hA.1.1.1
  have hcall : CallF Tryz.prog 14 [ints l] (.p (dfa A)) := by rw [hAe]; exact dfa_call hl
  obtain ⟨B, hBe⟩ : ∃ B, B = sizedP m A.size := ⟨_, rfl⟩
  have hB : okD B ∧ B.n ≤ 7 := by rw [hBe]; exact sized_ok hsz
  have hs : A.size = B.size := by rw [hBe]; rfl
  have hcallB : CallF Tryz.prog 15 [ints m, int A.size] (.p (dfa B)) := by rw [hBe]; exact sized_call (size := A.size) hm hsz
  clear hAe hBe
  have hk : A.k = B.k := by unfold Dfa.k; rw [hs]
  have hn : A.n * B.n ≤ 2048 := Nat.le_trans (Nat.mul_le_mul hA.2 hB.2) (by decide)
  have hvA := ok_valid hA.1
  have hvB := ok_valid hB.1
  have hboth : CallF Tryz.prog 23 [dfa A, dfa B] (.p (.tup [dfa (joinP andB A B), int 0])) := by
    have h := both_call hn
    rwa [joinZ_t hvA hvB hs, joinE_t hvA hvB hs] at h
  have heither : CallF Tryz.prog 25 [dfa A, dfa B] (.p (.tup [dfa (joinP orB A B), int 0])) := by
    have h := either_call hn
    rwa [joinZ_t hvA hvB hs, joinE_t hvA hvB hs] at h
  have hnA := not_ok hA.1
  have hnB := not_ok hB.1
  have hnnA : (notP A).n ≤ 7 := Nat.le_trans (minP_ok (flip_ok hA.1)).2 hA.2
  have hnnB : (notP B).n ≤ 7 := Nat.le_trans (minP_ok (flip_ok hB.1)).2 hB.2
  have hnota : CallF Tryz.prog 29 [dfa A] (.p (dfa (notP A))) := by
    have h := not_call (d := A)
    rwa [notZ_p hA.1] at h
  have hnotb : CallF Tryz.prog 29 [dfa B] (.p (dfa (notP B))) := by
    have h := not_call (d := B)
    rwa [notZ_p hB.1] at h
  have hs2 : (notP A).size = (notP B).size := hnA.2.1.trans (hs.trans hnB.2.1.symm)
  have hn2 : (notP A).n * (notP B).n ≤ 2048 := Nat.le_trans (Nat.mul_le_mul hnnA hnnB) (by decide)
  have hu : CallF Tryz.prog 25 [dfa (notP A), dfa (notP B)] (.p (.tup [dfa (joinP orB (notP A) (notP B)), int 0])) := by
    have h := either_call hn2
    rwa [joinZ_t (ok_valid hnA.1) (ok_valid hnB.1) hs2, joinE_t (ok_valid hnA.1) (ok_valid hnB.1) hs2] at h
  have hA11 : A.n ≤ 11 := Nat.le_trans hA.2 (by decide)
  have hrev : CallF Tryz.prog 27 [dfa A] (.p (.tup [dfa (revP A), int 0])) := by
    have h := reverse_call (fewD_small hA11)
    rwa [revZ_t hvA, revE_t hvA] at h
  have hrA := rev_ok hA.1 hA11
  obtain ⟨hrr, U, hU, hUl⟩ := rev_rev hA.1 hA11
  have hrev2 : CallF Tryz.prog 27 [dfa (revP A)] (.p (.tup [dfa (minP A), int 0])) := by
    have h := reverse_call (d := revP A) (fun _ => ⟨U, hU⟩)
    rwa [revZ_t (ok_valid hrA.1), revE_t (ok_valid hrA.1), hrr] at h
  have hmina : CallF Tryz.prog 30 [dfa A] (.p (dfa (minP A))) := by
    have h := min_call (d := A)
    rwa [minZ_t hvA] at h
  have hj := join_ok (f := andB) hA.1 hB.1 hk hn
  have hnj : CallF Tryz.prog 29 [dfa (joinP andB A B)] (.p (dfa (joinP orB (notP A) (notP B)))) := by
    have h := not_call (d := joinP andB A B)
    rwa [notZ_p hj.1, show notP (joinP andB A B) = joinP orB (notP A) (notP B) from morgan1 hA.1 hB.1 hs hn] at h
  have hnotn : CallF Tryz.prog 29 [dfa (notP A)] (.p (dfa (minP A))) := by
    have h := not_call (d := notP A)
    rwa [notZ_p hnA.1, not_not hA.1] at h
  have hk2 : (notP A).k = (notP B).k := by unfold Dfa.k; rw [hs2]
  have hokU : okD (joinP orB (notP A) (notP B)) := (join_ok hnA.1 hnB.1 hk2 hn2).1
  have hokM : okD (minP A) := (minP_ok hA.1).1
  obtain ⟨hr0, hr1⟩ := around_lt (n := z) (most := 200) (by omega)
  have hcz : ∀ d, okD d → countZ d (around z 200) = countP d (around z 200).toNat := fun d h => countZ_t (ok_valid h) hr0 (by omega)
  have hcnt : decide (countZ (revP A) (around z 200) = countZ A (around z 200)) = true := decide_eq_true (by rw [hcz _ hrA.1, hcz _ hA.1, count_rev hA.1 hA11])
  have hj2 := join_ok (f := orB) hA.1 hB.1 hk hn
  have hsum : decide (IntKind.u64.wrap (countZ A (around z 200) + countZ B (around z 200)) = IntKind.u64.wrap (countZ (joinP andB A B) (around z 200) + countZ (joinP orB A B) (around z 200))) = true := decide_eq_true (by
    rw [hcz _ hA.1, hcz _ hB.1, hcz _ hj.1, hcz _ hj2.1]
    exact count_join hA.1 hB.1 hk hn _)
  refine callF_of_code fn6 (Nat.le_of_ble_eq_true rfl) fun w0 M0 hM0 => ?_
  refine xC tb hM0 8 [1,2,20] [] rfl ?_
  refine oP rfl (pure_call rfl rfl rfl (hcall) hM0) ?_
  refine xA tb hM0 5 [1,2,7] [7] rfl ?_
  refine code_frz 124 [(1, _), (2, _), (7, _)] [] hM0 rfl ⟨.inl rfl, .inl rfl, .inr ⟨_, _, rfl, rfl, rfl⟩, trivial⟩ trivial ?_
  refine xK tb hM0 4 [2,7,22,24] [] rfl ?_
  refine oP rfl (pure_call rfl rfl rfl (hcallB) hM0) ?_
  refine xA tb hM0 5 [2,7,8] [8] rfl ?_
  refine code_frz 124 [(2, _), (7, _), (8, _)] [] hM0 rfl ⟨.inl rfl, .inl rfl, .inr ⟨_, _, rfl, rfl, rfl⟩, trivial⟩ trivial ?_
  refine xK tb hM0 3 [2,7,8,27,28] [] rfl ?_
  refine oP rfl (pure_call rfl rfl rfl (hboth) hM0) ?_
  refine xA tb hM0 9 [2,7,8,9,10] [9] rfl ?_
  refine code_frz 124 [(2, _), (7, _), (8, _), (9, _), (10, _)] [] hM0 rfl ⟨.inl rfl, .inl rfl, .inl rfl, .inr ⟨_, _, rfl, rfl, rfl⟩, .inl rfl, trivial⟩ trivial ?_
  refine xK tb hM0 3 [2,7,8,9,10,33,34] [] rfl ?_
  refine oP rfl (pure_call rfl rfl rfl (heither) hM0) ?_
  refine xA tb hM0 9 [2,7,8,9,10,11,12] [11] rfl ?_
  refine code_frz 124 [(2, _), (7, _), (8, _), (9, _), (10, _), (11, _), (12, _)] [] hM0 rfl ⟨.inl rfl, .inl rfl, .inl rfl, .inl rfl, .inl rfl, .inr ⟨_, _, rfl, rfl, rfl⟩, .inl rfl, trivial⟩ trivial ?_
  refine code_drawE (n := 124) (om := [(13, .box 31 [.v .pl (.sc (.int .i64 0)), .v .pl (.sc (.slice none 0 0)), .v .pl (.sc (.slice none 0 0))])]) (o2 := [(13, .box 31 [.v .pl (int ((joinP orB (notP A) (notP B))).size), .v .pl (rowsA ((joinP orB (notP A) (notP B))).next), .v .pl (boolsA ((joinP orB (notP A) (notP B))).fin)])]) 8 9 11 [(39, .v .pl (dfa A)), (40, .v .pl (dfa (notP A))), (41, .v .pl (dfa B)), (42, .v .pl (dfa (notP B))), (43, .v .pl (.tup [dfa (joinP orB (notP A) (notP B)), int 0])), (38, .v .pl (.tup [dfa (joinP orB (notP A) (notP B)), int 0])), (44, .v .pl (dfa (joinP orB (notP A) (notP B)))), (45, .v .pl (int 0)), (13, .pbox 13 0), (14, .v .pl (int 0)), (2, .v .mx (int z)), (7, .v .pl (dpc A)), (8, .v .pl (dpc B)), (9, .v .pl (dpc (joinP andB A B))), (10, .v .pl (int 0)), (11, .v .pl (dpc (joinP orB A B))), (12, .v .pl (int 0))] mixed (by kernel_rfl) (by kernel_rfl) (by kernel_rfl) (by kernel_rfl) rfl (by kernel_rfl) rfl (fun t z h => h) rfl ?_ ?_ ?_ ?_ ?_ ?_ ?_
  · intro zi zt hzi hzd
    rcases (by omega : zi = 0 ∨ zi = 1 ∨ zi = 2 ∨ zi = 3 ∨ zi = 4 ∨ zi = 5 ∨ zi = 6 ∨ zi = 7 ∨ zi = 8 ∨ zi = 9 ∨ zi = 10) with rfl | rfl | rfl | rfl | rfl | rfl | rfl | rfl | rfl | rfl | rfl
    · injection (show some _ = some zt from hzd) with hzd; subst hzd; exact ⟨_, rfl⟩
    · injection (show some _ = some zt from hzd) with hzd; subst hzd; exact ⟨_, rfl⟩
    · injection (show some _ = some zt from hzd) with hzd; subst hzd; exact ⟨_, rfl⟩
    · injection (show some _ = some zt from hzd) with hzd; subst hzd; exact ⟨_, rfl⟩
    · injection (show some _ = some zt from hzd) with hzd; subst hzd; exact ⟨_, rfl⟩
    · injection (show some _ = some zt from hzd) with hzd; subst hzd; exact ⟨_, rfl⟩
    · injection (show some _ = some zt from hzd) with hzd; subst hzd; exact ⟨_, rfl⟩
    · injection (show some _ = some zt from hzd) with hzd; subst hzd; exact ⟨_, rfl⟩
    · injection (show some _ = some zt from hzd) with hzd; subst hzd; exact ⟨_, rfl⟩
    · cases (show (none : Option Nat) = some zt from hzd)
    · injection (show some _ = some zt from hzd) with hzd; subst hzd; exact ⟨_, rfl⟩
  · intro zi zo zt zd hzi hzia hzib hzo hzd hzG hzn
    rcases (by omega : zi = 0 ∨ zi = 1 ∨ zi = 2 ∨ zi = 3 ∨ zi = 4 ∨ zi = 5 ∨ zi = 6 ∨ zi = 7 ∨ zi = 10) with rfl | rfl | rfl | rfl | rfl | rfl | rfl | rfl | rfl
    · injection (show some _ = some zo from hzo) with hzo; subst hzo; injection (show some _ = some zt from hzd) with hzd; subst hzd; injection (show some _ = some zd from hzG) with hzG; subst hzG
      exact (pure_norm (pure_load_agg rfl ag31 sz31 rfl (Nat.le_of_ble_eq_true rfl)) rfl)
    · injection (show some _ = some zo from hzo) with hzo; subst hzo; injection (show some _ = some zt from hzd) with hzd; subst hzd; injection (show some _ = some zd from hzG) with hzG; subst hzG
      exact (pure_callD rfl rfl rfl (hnota) hM0)
    · injection (show some _ = some zo from hzo) with hzo; subst hzo; injection (show some _ = some zt from hzd) with hzd; subst hzd; injection (show some _ = some zd from hzG) with hzG; subst hzG
      exact (pure_norm (pure_load_agg rfl ag31 sz31 rfl (Nat.le_of_ble_eq_true rfl)) rfl)
    · injection (show some _ = some zo from hzo) with hzo; subst hzo; injection (show some _ = some zt from hzd) with hzd; subst hzd; injection (show some _ = some zd from hzG) with hzG; subst hzG
      exact (pure_callD rfl rfl rfl (hnotb) hM0)
    · injection (show some _ = some zo from hzo) with hzo; subst hzo; injection (show some _ = some zt from hzd) with hzd; subst hzd; injection (show some _ = some zd from hzG) with hzG; subst hzG
      exact (pure_callD rfl rfl rfl (hu) hM0)
    · injection (show some _ = some zo from hzo) with hzo; subst hzo; injection (show some _ = some zt from hzd) with hzd; subst hzd; injection (show some _ = some zd from hzG) with hzG; subst hzG
      exact (pure_move rfl rfl)
    · injection (show some _ = some zo from hzo) with hzo; subst hzo; injection (show some _ = some zt from hzd) with hzd; subst hzd; injection (show some _ = some zd from hzG) with hzG; subst hzG
      exact (pure_extract rfl rfl rfl)
    · injection (show some _ = some zo from hzo) with hzo; subst hzo; injection (show some _ = some zt from hzd) with hzd; subst hzd; injection (show some _ = some zd from hzG) with hzG; subst hzG
      exact (pure_extract rfl rfl rfl)
    · first | exact absurd hzn (by decide)
  · intro zi zo zt zd hzi hzia hzib hzo hzd hzG hzn hzn2
    rcases (by omega : zi = 0 ∨ zi = 1 ∨ zi = 2 ∨ zi = 3 ∨ zi = 4 ∨ zi = 5 ∨ zi = 6 ∨ zi = 7 ∨ zi = 10) with rfl | rfl | rfl | rfl | rfl | rfl | rfl | rfl | rfl
    · injection (show some _ = some zo from hzo) with hzo; subst hzo; injection (show some _ = some zt from hzd) with hzd; subst hzd; injection (show some _ = some zd from hzG) with hzG; subst hzG
      exact (pure_norm (pure_load_agg rfl ag31 sz31 rfl (Nat.le_of_ble_eq_true rfl)) rfl)
    · injection (show some _ = some zo from hzo) with hzo; subst hzo; injection (show some _ = some zt from hzd) with hzd; subst hzd; injection (show some _ = some zd from hzG) with hzG; subst hzG
      exact (pure_callD rfl rfl rfl (hnota) hM0)
    · injection (show some _ = some zo from hzo) with hzo; subst hzo; injection (show some _ = some zt from hzd) with hzd; subst hzd; injection (show some _ = some zd from hzG) with hzG; subst hzG
      exact (pure_norm (pure_load_agg rfl ag31 sz31 rfl (Nat.le_of_ble_eq_true rfl)) rfl)
    · injection (show some _ = some zo from hzo) with hzo; subst hzo; injection (show some _ = some zt from hzd) with hzd; subst hzd; injection (show some _ = some zd from hzG) with hzG; subst hzG
      exact (pure_callD rfl rfl rfl (hnotb) hM0)
    · injection (show some _ = some zo from hzo) with hzo; subst hzo; injection (show some _ = some zt from hzd) with hzd; subst hzd; injection (show some _ = some zd from hzG) with hzG; subst hzG
      exact (pure_callD rfl rfl rfl (hu) hM0)
    · injection (show some _ = some zo from hzo) with hzo; subst hzo; injection (show some _ = some zt from hzd) with hzd; subst hzd; injection (show some _ = some zd from hzG) with hzG; subst hzG
      exact (pure_move rfl rfl)
    · injection (show some _ = some zo from hzo) with hzo; subst hzo; injection (show some _ = some zt from hzd) with hzd; subst hzd; injection (show some _ = some zd from hzG) with hzG; subst hzG
      exact (pure_extract rfl rfl rfl)
    · injection (show some _ = some zo from hzo) with hzo; subst hzo; injection (show some _ = some zt from hzd) with hzd; subst hzd; injection (show some _ = some zd from hzG) with hzG; subst hzG
      exact (pure_extract rfl rfl rfl)
    · first | exact absurd hzn (by decide) | exact absurd hzn2 (by decide)
  · intro zi zo zt zd hzi hzia hzib hzo hzd hzG hzn
    rcases (by omega : zi = 0 ∨ zi = 1 ∨ zi = 2 ∨ zi = 3 ∨ zi = 4 ∨ zi = 5 ∨ zi = 6 ∨ zi = 7 ∨ zi = 10) with rfl | rfl | rfl | rfl | rfl | rfl | rfl | rfl | rfl
    · first | exact absurd hzn (by decide)
    · first | exact absurd hzn (by decide)
    · first | exact absurd hzn (by decide)
    · first | exact absurd hzn (by decide)
    · first | exact absurd hzn (by decide)
    · first | exact absurd hzn (by decide)
    · first | exact absurd hzn (by decide)
    · injection (show some _ = some zo from hzo) with hzo; subst hzo; injection (show some _ = some zt from hzd) with hzd; subst hzd; injection (show some _ = some zd from hzG) with hzG; subst hzG
      exact (pure_extract rfl rfl rfl)
    · injection (show some _ = some zo from hzo) with hzo; subst hzo; injection (show some _ = some zt from hzd) with hzd; subst hzd; injection (show some _ = some zd from hzG) with hzG; subst hzG
      exact (pure_assign rfl rfl)
  · intro zo X hzo hXn hXG hXr
    injection (show some _ = some zo from hzo) with hzo'
    exact step_allocD (t := 13) (by rw [← hzo']; rfl) (by rw [← hzo']; rfl) rfl rfl hXn ze31 rfl rfl (fun t' z h hne => all_stays (by rfl) (hXG t' z h) hne) rfl hM0
  · intro zo X hzo hXn hXG hXr
    have hXu : 13 ∈ looks _ zo → X.lookup 13 = some (.pbox 13 0) := fun h => (hXr 13 h).trans rfl
    have hXv : 44 ∈ looks _ zo → X.lookup 44 = some (.v .pl (dfa (joinP orB (notP A) (notP B)))) := fun h => (hXr 44 h).trans rfl
    injection (show some _ = some zo from hzo) with hzo'
    exact step_storeE (by rw [← hzo']; rfl) (step_storeD (u := 13) (v := 44) (id := 13) (by rw [← hzo']; rfl) (by rw [← hzo']; rfl) hXn sz31 (hXu (by rw [← hzo']; decide)) rfl (hXv (by rw [← hzo']; decide)) rfl (by decide) rfl rfl (fun t' z h => all_stays0 (by rfl) (hXG t' z h)) rfl hM0)
  refine endL_of (n := 0) (by kernel_rfl) ?_
  refine ex_end (by kernel_rfl) ?_
  refine xD tb hM0 2 [2,7,8,9,10,11,12,13,14] [13] rfl ?_
  refine code_frz 124 [(2, _), (7, _), (8, _), (9, _), (10, _), (11, _), (12, _), (13, _), (14, _)] [] hM0 rfl ⟨.inl rfl, .inl rfl, .inl rfl, .inl rfl, .inl rfl, .inl rfl, .inl rfl, .inr ⟨_, _, rfl, rfl, rfl⟩, .inl rfl, trivial⟩ trivial ?_
  refine xK tb hM0 2 [2,7,8,9,10,11,12,13,14,47] [] rfl ?_
  refine oP rfl (pure_call rfl rfl rfl (hrev) hM0) ?_
  refine xA tb hM0 9 [2,7,8,9,10,11,12,13,14,15,16] [15] rfl ?_
  refine code_frz 124 [(2, _), (7, _), (8, _), (9, _), (10, _), (11, _), (12, _), (13, _), (14, _), (15, _), (16, _)] [] hM0 rfl ⟨.inl rfl, .inl rfl, .inl rfl, .inl rfl, .inl rfl, .inl rfl, .inl rfl, .inl rfl, .inl rfl, .inr ⟨_, _, rfl, rfl, rfl⟩, .inl rfl, trivial⟩ trivial ?_
  refine xK tb hM0 2 [2,7,8,9,10,11,12,13,14,15,16,52] [] rfl ?_
  refine oP rfl (pure_call rfl rfl rfl (hrev2) hM0) ?_
  refine xA tb hM0 10 [2,7,8,9,10,11,12,13,14,15,16,17,18] [17] rfl ?_
  refine code_frz 124 [(2, _), (7, _), (8, _), (9, _), (10, _), (11, _), (12, _), (13, _), (14, _), (15, _), (16, _), (17, _), (18, _)] [] hM0 rfl ⟨.inl rfl, .inl rfl, .inl rfl, .inl rfl, .inl rfl, .inl rfl, .inl rfl, .inl rfl, .inl rfl, .inl rfl, .inl rfl, .inr ⟨_, _, rfl, rfl, rfl⟩, .inl rfl, trivial⟩ trivial ?_
  refine xK tb hM0 2 [2,7,8,9,11,12,13,14,15,16,17,18,56] [] rfl ?_
  refine oP rfl (pure_to (b' := false) (pure_neq rfl rfl rfl) (by simp)) ?_
  refine xA tb hM0 2 [2,7,8,9,11,13,14,15,16,17,18,58,59] [] rfl ?_
  refine oP rfl (pure_to (b' := false) (pure_neq rfl rfl rfl) (by simp)) ?_
  refine xA tb hM0 3 [2,7,8,9,11,13,15,16,17,18,62,63] [] rfl ?_
  refine oP rfl (pure_to (b' := false) (pure_neq rfl rfl rfl) (by simp)) ?_
  refine xA tb hM0 3 [2,7,8,9,11,13,15,17,18,66,67] [] rfl ?_
  refine oP rfl (pure_to (b' := false) (pure_neq rfl rfl rfl) (by simp)) ?_
  refine xA tb hM0 3 [2,7,8,9,11,13,15,17,70,71] [] rfl ?_
  refine oP rfl (pure_to (b' := false) (pure_neq rfl rfl rfl) (by simp)) ?_
  refine xA tb hM0 9 [7,8,9,11,13,15,17,74] [] rfl ?_
  refine oP rfl (pure_call rfl rfl rfl (around_call (n := z) (most := 200) hz (by omega)) hM0) ?_
  refine xA tb hM0 5 [7,8,9,11,13,15,17,19] [] rfl ?_
  refine code_draw mixed (by kernel_rfl) _ rfl ?_
  refine dl_pure rfl rfl rfl (pure_load_agg rfl ag31 sz31 rfl (Nat.le_of_ble_eq_true rfl)) ?_
  refine dl_pure rfl rfl rfl (pure_call rfl rfl rfl (hnj) hM0) ?_
  refine dl_pure rfl rfl rfl (pure_load_agg rfl ag31 sz31 rfl (Nat.le_of_ble_eq_true rfl)) ?_
  refine dl_pure rfl rfl rfl (pure_call rfl rfl rfl (sameD_call (.inl hokU)) hM0) ?_
  refine dl_pure rfl rfl rfl (pure_not rfl rfl) ?_
  refine dl_pure rfl rfl rfl (pure_move rfl rfl) ?_
  refine dl_pure_g rfl rfl rfl rfl rfl (pure_load_agg rfl ag31 sz31 rfl (Nat.le_of_ble_eq_true rfl)) ?_
  refine dpk 124 [(7,_),(8,_),(9,_),(11,_),(15,_),(19,_),(81,_),(82,_)] [] rfl rfl rfl ?_
  refine dl_pure_g rfl rfl rfl rfl rfl (pure_load_agg rfl ag31 sz31 rfl (Nat.le_of_ble_eq_true rfl)) ?_
  refine dl_pure_g rfl rfl rfl rfl rfl (pure_call rfl rfl rfl (hmina) hM0) ?_
  refine dl_pure_g rfl rfl rfl rfl rfl (pure_call rfl rfl rfl (sameD_call (.inl hokM)) hM0) ?_
  refine dl_pure_g rfl rfl rfl rfl rfl (pure_not rfl rfl) ?_
  refine dl_pure rfl rfl rfl (pure_pick_f rfl rfl rfl rfl) ?_
  refine dl_pure rfl rfl rfl (pure_move rfl rfl) ?_
  refine dl_pure_g rfl rfl rfl rfl rfl (pure_load_agg rfl ag31 sz31 rfl (Nat.le_of_ble_eq_true rfl)) ?_
  refine dpk 124 [(7,_),(8,_),(9,_),(11,_),(15,_),(19,_),(88,_),(89,_)] [] rfl rfl rfl ?_
  refine dl_pure_g rfl rfl rfl rfl rfl (pure_call rfl rfl rfl (hnota) hM0) ?_
  refine dl_pure_g rfl rfl rfl rfl rfl (pure_call rfl rfl rfl (hnotn) hM0) ?_
  refine dl_pure_g rfl rfl rfl rfl rfl (pure_load_agg rfl ag31 sz31 rfl (Nat.le_of_ble_eq_true rfl)) ?_
  refine dl_pure_g rfl rfl rfl rfl rfl (pure_call rfl rfl rfl (hmina) hM0) ?_
  refine dl_pure_g rfl rfl rfl rfl rfl (pure_call rfl rfl rfl (sameD_call (.inl hokM)) hM0) ?_
  refine dl_pure_g rfl rfl rfl rfl rfl (pure_not rfl rfl) ?_
  refine dl_pure rfl rfl rfl (pure_pick_f rfl rfl rfl rfl) ?_
  refine dl_nil ?_
  refine xD tb hM0 5 [7,8,9,11,15,19] [] rfl ?_
  refine code_draw mixed (by kernel_rfl) _ rfl ?_
  refine dl_pure rfl rfl rfl (pure_load_agg rfl ag31 sz31 rfl (Nat.le_of_ble_eq_true rfl)) ?_
  refine dl_pure rfl rfl rfl (pure_move rfl rfl) ?_
  refine dl_pure rfl rfl rfl (pure_call rfl rfl rfl (countD_call) hM0) ?_
  refine dl_pure rfl rfl rfl (pure_load_agg rfl ag31 sz31 rfl (Nat.le_of_ble_eq_true rfl)) ?_
  refine dl_pure rfl rfl rfl (pure_move rfl rfl) ?_
  refine dl_pure rfl rfl rfl (pure_call rfl rfl rfl (countD_call) hM0) ?_
  refine dl_pure rfl rfl rfl (pure_add rfl rfl rfl) ?_
  refine dpk 124 [(7,_),(9,_),(11,_),(15,_),(19,_),(103,_)] [] rfl rfl rfl ?_
  refine dl_pure rfl rfl rfl (pure_load_agg rfl ag31 sz31 rfl (Nat.le_of_ble_eq_true rfl)) ?_
  refine dl_pure rfl rfl rfl (pure_move rfl rfl) ?_
  refine dl_pure rfl rfl rfl (pure_call rfl rfl rfl (countD_call) hM0) ?_
  refine dl_pure rfl rfl rfl (pure_load_agg rfl ag31 sz31 rfl (Nat.le_of_ble_eq_true rfl)) ?_
  refine dl_pure rfl rfl rfl (pure_move rfl rfl) ?_
  refine dl_pure rfl rfl rfl (pure_call rfl rfl rfl (countD_call) hM0) ?_
  refine dl_pure rfl rfl rfl (pure_add rfl rfl rfl) ?_
  refine dpk 124 [(7,_),(15,_),(19,_),(103,_),(110,_)] [] rfl rfl rfl ?_
  refine dl_pure rfl rfl rfl (pure_to (b' := true) (pure_eql rfl rfl rfl) (hsum)) ?_
  refine dl_pure rfl rfl rfl (pure_move rfl rfl) ?_
  refine dl_pure_g rfl rfl rfl rfl rfl (pure_load_agg rfl ag31 sz31 rfl (Nat.le_of_ble_eq_true rfl)) ?_
  refine dl_pure_g rfl rfl rfl rfl rfl (pure_move rfl rfl) ?_
  refine dl_pure_g rfl rfl rfl rfl rfl (pure_call rfl rfl rfl (countD_call) hM0) ?_
  refine dl_pure_g rfl rfl rfl rfl rfl (pure_load_agg rfl ag31 sz31 rfl (Nat.le_of_ble_eq_true rfl)) ?_
  refine dl_pure_g rfl rfl rfl rfl rfl (pure_move rfl rfl) ?_
  refine dpk 124 [(112,_),(115,_),(116,_),(117,_)] [] rfl rfl rfl ?_
  refine dl_pure_g rfl rfl rfl rfl rfl (pure_call rfl rfl rfl (countD_call) hM0) ?_
  refine dl_pure_g rfl rfl rfl rfl rfl (pure_to (b' := true) (pure_eql rfl rfl rfl) (hcnt)) ?_
  refine dl_pure rfl rfl rfl (pure_pick_t rfl rfl rfl rfl) ?_
  refine dl_pure rfl rfl rfl (pure_move rfl rfl) ?_
  refine dl_pure_g rfl rfl rfl rfl rfl (pure_call rfl rfl rfl (lives_call) hM0) ?_
  refine dl_pure rfl rfl rfl (pure_pick_t rfl rfl rfl rfl) ?_
  refine dl_pure rfl rfl rfl (pure_assign rfl rfl) ?_
  refine dl_nil ?_
  refine xD tb hM0 2 [] [] rfl ?_
  refine end_ret rfl ?_
  first | rfl | simp_all
/-! The statement AutomatonMorganSaid. -/
namespace automatonMorgan
open Go.ChangeShapes Go.WideShapes Go.ChangeAt Go.RowKit Go.Am
theorem own : ownKnob Tryz.prog.godebug = none := by kernel_rfl
set_option maxRecDepth 100000 in
theorem lifted (os : Os) (started : os.Started) (H : Type) (enc : TypeId × Value → H) :
    ReturnsInHanded {} Tryz.checked os 6 .any (Rows.automatonMorganSpec.pre6 enc Tryz.prog Tryz.f6 Rows.automatonMorganRow.domain false) (Rows.automatonMorganSpec.post enc Tryz.prog Tryz.f6 false true false false) := by
  refine returnsInHanded_of_change (C := Tryz.checked) own started (by kernel_rfl) Tryz.func6
    (ChangeSpec.witness6 (enc := enc) (C := Tryz.checked) false ⟨#[], #[.slice none 0 0, .slice none 0 0, .int .i64 0], []⟩ 8 (by kernel_rfl) (by kernel_rfl) (by kernel_rfl) (by kernel_rfl)) ?_
  intro W base args ds gs before hval0 hW hcnd _
  have hval : ∀ (j : Nat) t v, Tryz.f6.params[j]? = some t → args[j]? = some v → Value.okWide Tryz.prog W .any base t v := hval0
  have hW' := hW
  obtain ⟨p, q, hA0, hV, rfl, hfz, hnd⟩ := hW
  have hA : DataW.TrodAll enc Tryz.prog W 0 (fun _ => true) true Tryz.f6.params.toList args.toList ds p := hA0
  rw [Tryz.params6] at hA hval
  obtain ⟨v0, vs0, d0, ds0, p0, q0, hargs, rfl, rfl, h0, r0⟩ := trodAll_cons hA
  obtain ⟨v1, vs1, d1, ds1, p1, q1, rfl, rfl, rfl, h1, r1⟩ := trodAll_cons r0
  obtain ⟨v2, vs2, d2, ds2, p2, q2, rfl, rfl, rfl, h2, r2⟩ := trodAll_cons r1
  obtain ⟨rfl, rfl, rfl⟩ := trodAll_nil r2
  obtain rfl : args = #[v0, v1, v2] := by cases args; simp_all
  obtain ⟨x0, y0, z0, e0⟩ := open_intsA Tryz.underlying22 Tryz.underlying3 sz3 (hval 0 22 v0 rfl rfl) h0
  obtain ⟨x1, y1, z1, e1⟩ := open_intsA Tryz.underlying22 Tryz.underlying3 sz3 (hval 1 22 v1 rfl rfl) h1
  obtain ⟨x2, y2, e2⟩ := open_intA Tryz.underlying3 (hval 2 3 v2 rfl rfl) h2
  have hcall := (morgan_law y0 y1 y2).use (w := W) (vs := [v0, v1, v2]) ⟨e0, e1, e2, trivial⟩
  exact law_post (tb := 4) (by kernel_rfl) (by kernel_rfl) (by kernel_rfl) Tryz.underlying4 rfl rfl hW' hcall
theorem over : Rows.automatonMorganRow.holds Tryz.pinned (OpenSpec.ofChange Rows.automatonMorganSpec) :=
  OpenClaim.holds_of_wide 6 Tryz.f6 rfl rfl rfl rfl rfl rfl rfl ⟨rfl, rfl, rfl, rfl, rfl⟩ rfl rfl rfl rfl rfl (by kernel_rfl) Tryz.func6 (by kernel_rfl)
    (of_decide_eq_true (by kernel_rfl)) (by unfold Func.isWrapper; first | (rw [if_pos (by decide +kernel)]; kernel_rfl) | (rw [if_neg (by decide +kernel)]; exact ⟨rfl, rfl⟩))
    (fun os started H enc _ => lifted os started H enc)
end automatonMorgan
theorem automatonMorgan_holds : Rows.AutomatonMorganSaid := automatonMorgan.over
end Go.Proofs.YtjimlkpfmbachaaGreat

