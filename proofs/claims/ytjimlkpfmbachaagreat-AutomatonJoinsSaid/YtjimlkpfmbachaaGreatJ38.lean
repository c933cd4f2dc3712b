/-
  For all pairs of automata, also of different sizes, Both, Either and Reverse agree with the reference model (wordbooklaw08, AutomatonJoins).
-/
import Derived.Test.YtjimlkpfmbachaaGreatJ30
import Derived.Test.YtjimlkpfmbachaaGreatJ31
import Derived.Test.YtjimlkpfmbachaaGreatJ29
import Derived.Test.YtjimlkpfmbachaaGreatJ37
import Derived.Test.YtjimlkpfmbachaaGreatJ23
import Derived.Test.YtjimlkpfmbachaaGreatJ22
set_option linter.unusedVariables false
set_option linter.unusedSectionVars false
set_option linter.unusedSimpArgs false
namespace Go.Proofs.YtjimlkpfmbachaaGreat
open Go.Am Go.Wc Go.Wb Go.Wd
set_option linter.unusedVariables false
set_option linter.unusedSimpArgs false
theorem sameD_call {z : Dfa} (h : okD z ∨ z = zeroD) : CallF Tryz.prog 12 [dfa z, dfa z] (.p (bool true)) := by
  have hb : z.next.length ≤ 2048 ∧ z.fin.length ≤ 2048 ∧ ∀ r ∈ z.next, r.length ≤ 64 := by
    rcases h with h | rfl
    · have := h.1
      exact ⟨by omega, by omega, fun r hr => by have := (h.2 r hr).1; omega⟩
    · exact ⟨by decide, by decide, fun r hr => by cases hr⟩
  have q := dsame_call (a := z) (b := z) (by omega) (by omega) (fun r hr => by have := hb.2.2 r hr; omega)
  rwa [decide_eq_true rfl] at q
theorem joinZ_ok {f : Bool → Bool → Bool} {a b : Dfa} (hn : a.n * b.n ≤ 2048) : okD (joinZ f a b) ∨ joinZ f a b = zeroD := by
  by_cases h : validD a = true ∧ validD b = true ∧ a.size = b.size
  · rw [joinZ_t h.1 h.2.1 h.2.2]
    have hk : a.k = b.k := by unfold Dfa.k; rw [h.2.2]
    exact .inl (join_ok (valid_ok h.1) (valid_ok h.2.1) hk hn).1
  · exact .inr (joinZ_f h)
theorem revZ_ok {d : Dfa} (hn : d.n ≤ 11) : okD (revZ d) ∨ revZ d = zeroD := by
  by_cases h : validD d = true
  · rw [revZ_t h]; exact .inl (rev_ok (valid_ok h) hn).1
  · exact .inr (revZ_f (by simpa using h))
theorem fn5 : Fn1 Tryz.prog 5 Tryz.f5.ntmps 4 (Tryz.f5.body.getD .skip) := ⟨Tryz.f5, Tryz.func5, rfl, rfl, rfl, by kernel_rfl⟩
set_option maxRecDepth 100000 in
set_option maxHeartbeats 8000000 in
theorem joins_law {l m : List Int} (hl : I64s l) (hm : I64s m) : CallF Tryz.prog 5 [ints l, ints m] (.p (bool true)) := by
  obtain ⟨A, hAe⟩ : ∃ A, A = dfaP l := ⟨_, rfl⟩
  have hA : okD A ∧ A.n ≤ 7 := by rw [hAe]; exact dfa_ok l
  have hsz : 1 ≤ A.size ∧ A.size ≤ 64 := hA.1.1.1
  have hcall : CallF Tryz.prog 14 [ints l] (.p (dfa A)) := by rw [hAe]; exact dfa_call hl
  have hAn : A.n = A.next.length := rfl
  have hX : ∀ i, i < 4 → (okD ([sizedP m A.size, dfaP m, A, zeroD].getD i default) ∨ [sizedP m A.size, dfaP m, A, zeroD].getD i default = zeroD) ∧ ([sizedP m A.size, dfaP m, A, zeroD].getD i default).n ≤ 7 := fun i hi => by
    rcases (by omega : i = 0 ∨ i = 1 ∨ i = 2 ∨ i = 3) with rfl | rfl | rfl | rfl
    · exact ⟨.inl (sized_ok hsz).1, (sized_ok hsz).2⟩
    · exact ⟨.inl (dfa_ok m).1, (dfa_ok m).2⟩
    · exact ⟨.inl hA.1, hA.2⟩
    · exact ⟨.inr rfl, show zeroD.n ≤ 7 by decide⟩
  clear hAe
  refine callF_of_code fn5 (Nat.le_of_ble_eq_true rfl) fun w0 M0 hM0 => ?_
  refine xC tb hM0 8 [1,20] [] rfl ?_
  refine oP rfl (pure_call rfl rfl rfl (hcall) hM0) ?_
  refine xA tb hM0 5 [1,5] [5] rfl ?_
  refine code_frz 121 [(1, _), (5, _)] [] hM0 rfl ⟨.inl rfl, .inr ⟨_, _, rfl, rfl, rfl⟩, trivial⟩ trivial ?_
  refine code_draw mixed (by kernel_rfl) _ rfl ?_
  refine dl_pure rfl rfl rfl (pure_move rfl rfl) ?_
  refine dl_pure rfl rfl rfl (pure_field rfl fd31_0 rfl) ?_
  refine dl_pure rfl rfl rfl (pure_load rfl ag3 rfl rfl) ?_
  refine dl_pure rfl rfl rfl (pure_call rfl rfl rfl (sized_call (size := A.size) hm hsz) hM0) ?_
  refine dl_pure rfl rfl rfl (pure_move rfl rfl) ?_
  refine dl_pure rfl rfl rfl (pure_call rfl rfl rfl (dfa_call hm) hM0) ?_
  refine dl_pure rfl rfl rfl (pure_load_agg rfl ag31 sz31 rfl (Nat.le_of_ble_eq_true rfl)) ?_
  refine dl_pure rfl rfl rfl (pure_norm (pure_build rfl pl31 ze31 rfl rfl rfl) rfl) ?_
  refine dl_pure rfl rfl rfl (pure_lit rfl Tryz.underlying40 el31 rfl rfl rfl rfl hM0) ?_
  refine dl_pure rfl rfl rfl (pure_assign rfl rfl) ?_
  refine dl_nil ?_
  refine xD tb hM0 8 [5,6,7] [] rfl ?_
  refine lp (fun zm zs => ∃ i : Nat, zm = 4 - i ∧ (i ≤ 4) ∧ zs = ⟨121, [(5, .v .pl (dpc A)), (6, .v .pl (.sl ([sizedP m A.size, dfaP m, A, zeroD].map dfa))), (7, .v .pl (int i))], []⟩) ?_ ?_
  exact ⟨_, 0, rfl, Nat.zero_le _, rfl⟩
  rintro zm zs ⟨i, rfl, hL1_0, rfl⟩
  have h44 : ([sizedP m A.size, dfaP m, A, zeroD]).length = 4 := rfl
  refine xA tb hM0 5 [5,6,7,31,32] [] rfl ?_
  refine oP rfl (pure_lenm rfl Tryz.underlying40 rfl) ?_
  refine xA tb hM0 3 [5,6,7,34] [] rfl ?_
  refine spC 34 rfl ?_ ?_ <;> intro h1 <;> try simp only [dq] at h1
  refine xA tb hM0 6 [5,6,7] [] rfl ?_
  have hi4 : i < 4 := by omega
  have hXi := hX i hi4
  have hXm : A.next.length * ([sizedP m A.size, dfaP m, A, zeroD].getD i default).next.length ≤ 49 := Nat.mul_le_mul (show A.next.length ≤ 7 by omega) hXi.2
  have hXf : FewD ([sizedP m A.size, dfaP m, A, zeroD].getD i default) := fewD_small (Nat.le_trans hXi.2 (by decide))
  have hz1 := joinZ_ok (f := andB) (a := A) (b := ([sizedP m A.size, dfaP m, A, zeroD].getD i default)) (Nat.le_trans hXm (by decide))
  have hz2 := joinZ_ok (f := orB) (a := A) (b := ([sizedP m A.size, dfaP m, A, zeroD].getD i default)) (Nat.le_trans hXm (by decide))
  have hz3 := revZ_ok (d := ([sizedP m A.size, dfaP m, A, zeroD].getD i default)) (Nat.le_trans hXi.2 (by decide))
  refine code_drawE (n := 121) (om := [(8, .box 31 [.v .pl (.sc (.int .i64 0)), .v .pl (.sc (.slice none 0 0)), .v .pl (.sc (.slice none 0 0))])]) (o2 := [(8, .box 31 [.v .pl (int ((joinZ andB A ([sizedP m A.size, dfaP m, A, zeroD].getD i default))).size), .v .pl (rowsA ((joinZ andB A ([sizedP m A.size, dfaP m, A, zeroD].getD i default))).next), .v .pl (boolsA ((joinZ andB A ([sizedP m A.size, dfaP m, A, zeroD].getD i default))).fin)])]) 9 10 12 [(38, .v .pl (dfa A)), (39, .v .pl (.sl ([sizedP m A.size, dfaP m, A, zeroD].map dfa))), (40, .v .pl (int i)), (41, .v .pl (.pc (dcells ([sizedP m A.size, dfaP m, A, zeroD].getD i default)) 0)), (42, .v .pl (dfa ([sizedP m A.size, dfaP m, A, zeroD].getD i default))), (43, .v .pl (.tup [dfa (joinZ andB A ([sizedP m A.size, dfaP m, A, zeroD].getD i default)), int (joinE A ([sizedP m A.size, dfaP m, A, zeroD].getD i default))])), (37, .v .pl (.tup [dfa (joinZ andB A ([sizedP m A.size, dfaP m, A, zeroD].getD i default)), int (joinE A ([sizedP m A.size, dfaP m, A, zeroD].getD i default))])), (44, .v .pl (dfa (joinZ andB A ([sizedP m A.size, dfaP m, A, zeroD].getD i default)))), (45, .v .pl (int (joinE A ([sizedP m A.size, dfaP m, A, zeroD].getD i default)))), (8, .pbox 8 0), (9, .v .pl (int (joinE A ([sizedP m A.size, dfaP m, A, zeroD].getD i default)))), (5, .v .pl (dpc A)), (6, .v .pl (.sl ([sizedP m A.size, dfaP m, A, zeroD].map dfa))), (7, .v .pl (int i))] mixed (by kernel_rfl) (by kernel_rfl) (by kernel_rfl) (by kernel_rfl) rfl (by kernel_rfl) rfl (fun t z h => h) rfl ?_ ?_ ?_ ?_ ?_ ?_ ?_
  · intro zi zt hzi hzd
    rcases (by omega : zi = 0 ∨ zi = 1 ∨ zi = 2 ∨ zi = 3 ∨ zi = 4 ∨ zi = 5 ∨ zi = 6 ∨ zi = 7 ∨ zi = 8 ∨ zi = 9 ∨ zi = 10 ∨ zi = 11) with rfl | rfl | rfl | rfl | rfl | rfl | rfl | rfl | rfl | rfl | rfl | rfl
    · injection (show some _ = some zt from hzd) with hzd; subst hzd; exact ⟨_, rfl⟩
    · injection (show some _ = some zt from hzd) with hzd; subst hzd; exact ⟨_, rfl⟩
    · injection (show some _ = some zt from hzd) with hzd; subst hzd; exact ⟨_, rfl⟩
    · injection (show some _ = some zt from hzd) with hzd; subst hzd; exact ⟨_, rfl⟩
    · injection (show some _ = some zt from hzd) with hzd; subst hzd; exact ⟨_, rfl⟩
    · injection (show some _ = some zt from hzd) with hzd; subst hzd; exact ⟨_, rfl⟩
    · injection (show some _ = some zt from hzd) with hzd; subst hzd; exact ⟨_, rfl⟩
    · injection (show some _ = some zt from hzd) with hzd; subst hzd; exact ⟨_, rfl⟩
    · injection (show some _ = some zt from hzd) with hzd; subst hzd; exact ⟨_, rfl⟩
    · injection (show some _ = some zt from hzd) with hzd; subst hzd; exact ⟨_, rfl⟩
    · cases (show (none : Option Nat) = some zt from hzd)
    · injection (show some _ = some zt from hzd) with hzd; subst hzd; exact ⟨_, rfl⟩
  · intro zi zo zt zd hzi hzia hzib hzo hzd hzG hzn
    rcases (by omega : zi = 0 ∨ zi = 1 ∨ zi = 2 ∨ zi = 3 ∨ zi = 4 ∨ zi = 5 ∨ zi = 6 ∨ zi = 7 ∨ zi = 8 ∨ zi = 11) with rfl | rfl | rfl | rfl | rfl | rfl | rfl | rfl | rfl | rfl
    · injection (show some _ = some zo from hzo) with hzo; subst hzo; injection (show some _ = some zt from hzd) with hzd; subst hzd; injection (show some _ = some zd from hzG) with hzG; subst hzG
      exact (pure_norm (pure_load_agg rfl ag31 sz31 rfl (Nat.le_of_ble_eq_true rfl)) rfl)
    · injection (show some _ = some zo from hzo) with hzo; subst hzo; injection (show some _ = some zt from hzd) with hzd; subst hzd; injection (show some _ = some zd from hzG) with hzG; subst hzG
      exact (pure_move rfl rfl)
    · injection (show some _ = some zo from hzo) with hzo; subst hzo; injection (show some _ = some zt from hzd) with hzd; subst hzd; injection (show some _ = some zd from hzG) with hzG; subst hzG
      exact (pure_move rfl rfl)
    · injection (show some _ = some zo from hzo) with hzo; subst hzo; injection (show some _ = some zt from hzd) with hzd; subst hzd; injection (show some _ = some zd from hzG) with hzG; subst hzG
      exact (pure_ix (f := dfa) (l := [sizedP m A.size, dfaP m, A, zeroD]) rfl Tryz.underlying40 sz31 rfl rfl (by omega) (fun _ => rfl))
    · injection (show some _ = some zo from hzo) with hzo; subst hzo; injection (show some _ = some zt from hzd) with hzd; subst hzd; injection (show some _ = some zd from hzG) with hzG; subst hzG
      exact (pure_norm (pure_load_agg rfl ag31 sz31 rfl (Nat.le_of_ble_eq_true rfl)) rfl)
    · injection (show some _ = some zo from hzo) with hzo; subst hzo; injection (show some _ = some zt from hzd) with hzd; subst hzd; injection (show some _ = some zd from hzG) with hzG; subst hzG
      exact (pure_callD rfl rfl rfl (both_call (a := A) (b := ([sizedP m A.size, dfaP m, A, zeroD].getD i default)) (Nat.le_trans hXm (by decide))) hM0)
    · injection (show some _ = some zo from hzo) with hzo; subst hzo; injection (show some _ = some zt from hzd) with hzd; subst hzd; injection (show some _ = some zd from hzG) with hzG; subst hzG
      exact (pure_move rfl rfl)
    · injection (show some _ = some zo from hzo) with hzo; subst hzo; injection (show some _ = some zt from hzd) with hzd; subst hzd; injection (show some _ = some zd from hzG) with hzG; subst hzG
      exact (pure_extract rfl rfl rfl)
    · injection (show some _ = some zo from hzo) with hzo; subst hzo; injection (show some _ = some zt from hzd) with hzd; subst hzd; injection (show some _ = some zd from hzG) with hzG; subst hzG
      exact (pure_extract rfl rfl rfl)
    · first | exact absurd hzn (by decide)
  · intro zi zo zt zd hzi hzia hzib hzo hzd hzG hzn hzn2
    rcases (by omega : zi = 0 ∨ zi = 1 ∨ zi = 2 ∨ zi = 3 ∨ zi = 4 ∨ zi = 5 ∨ zi = 6 ∨ zi = 7 ∨ zi = 8 ∨ zi = 11) with rfl | rfl | rfl | rfl | rfl | rfl | rfl | rfl | rfl | rfl
    · injection (show some _ = some zo from hzo) with hzo; subst hzo; injection (show some _ = some zt from hzd) with hzd; subst hzd; injection (show some _ = some zd from hzG) with hzG; subst hzG
      exact (pure_norm (pure_load_agg rfl ag31 sz31 rfl (Nat.le_of_ble_eq_true rfl)) rfl)
    · injection (show some _ = some zo from hzo) with hzo; subst hzo; injection (show some _ = some zt from hzd) with hzd; subst hzd; injection (show some _ = some zd from hzG) with hzG; subst hzG
      exact (pure_move rfl rfl)
    · injection (show some _ = some zo from hzo) with hzo; subst hzo; injection (show some _ = some zt from hzd) with hzd; subst hzd; injection (show some _ = some zd from hzG) with hzG; subst hzG
      exact (pure_move rfl rfl)
    · injection (show some _ = some zo from hzo) with hzo; subst hzo; injection (show some _ = some zt from hzd) with hzd; subst hzd; injection (show some _ = some zd from hzG) with hzG; subst hzG
      exact (pure_ix (f := dfa) (l := [sizedP m A.size, dfaP m, A, zeroD]) rfl Tryz.underlying40 sz31 rfl rfl (by omega) (fun _ => rfl))
    · injection (show some _ = some zo from hzo) with hzo; subst hzo; injection (show some _ = some zt from hzd) with hzd; subst hzd; injection (show some _ = some zd from hzG) with hzG; subst hzG
      exact (pure_norm (pure_load_agg rfl ag31 sz31 rfl (Nat.le_of_ble_eq_true rfl)) rfl)
    · injection (show some _ = some zo from hzo) with hzo; subst hzo; injection (show some _ = some zt from hzd) with hzd; subst hzd; injection (show some _ = some zd from hzG) with hzG; subst hzG
      exact (pure_callD rfl rfl rfl (both_call (a := A) (b := ([sizedP m A.size, dfaP m, A, zeroD].getD i default)) (Nat.le_trans hXm (by decide))) hM0)
    · injection (show some _ = some zo from hzo) with hzo; subst hzo; injection (show some _ = some zt from hzd) with hzd; subst hzd; injection (show some _ = some zd from hzG) with hzG; subst hzG
      exact (pure_move rfl rfl)
    · injection (show some _ = some zo from hzo) with hzo; subst hzo; injection (show some _ = some zt from hzd) with hzd; subst hzd; injection (show some _ = some zd from hzG) with hzG; subst hzG
      exact (pure_extract rfl rfl rfl)
    · injection (show some _ = some zo from hzo) with hzo; subst hzo; injection (show some _ = some zt from hzd) with hzd; subst hzd; injection (show some _ = some zd from hzG) with hzG; subst hzG
      exact (pure_extract rfl rfl rfl)
    · first | exact absurd hzn (by decide) | exact absurd hzn2 (by decide)
  · intro zi zo zt zd hzi hzia hzib hzo hzd hzG hzn
    rcases (by omega : zi = 0 ∨ zi = 1 ∨ zi = 2 ∨ zi = 3 ∨ zi = 4 ∨ zi = 5 ∨ zi = 6 ∨ zi = 7 ∨ zi = 8 ∨ zi = 11) with rfl | rfl | rfl | rfl | rfl | rfl | rfl | rfl | rfl | rfl
    · first | exact absurd hzn (by decide)
    · first | exact absurd hzn (by decide)
    · first | exact absurd hzn (by decide)
    · first | exact absurd hzn (by decide)
    · first | exact absurd hzn (by decide)
    · first | exact absurd hzn (by decide)
    · first | exact absurd hzn (by decide)
    · first | exact absurd hzn (by decide)
    · injection (show some _ = some zo from hzo) with hzo; subst hzo; injection (show some _ = some zt from hzd) with hzd; subst hzd; injection (show some _ = some zd from hzG) with hzG; subst hzG
      exact (pure_extract rfl rfl rfl)
    · injection (show some _ = some zo from hzo) with hzo; subst hzo; injection (show some _ = some zt from hzd) with hzd; subst hzd; injection (show some _ = some zd from hzG) with hzG; subst hzG
      exact (pure_assign rfl rfl)
  · intro zo X hzo hXn hXG hXr
    injection (show some _ = some zo from hzo) with hzo'
    exact step_allocD (t := 8) (by rw [← hzo']; rfl) (by rw [← hzo']; rfl) rfl rfl hXn ze31 rfl rfl (fun t' z h hne => all_stays (by rfl) (hXG t' z h) hne) rfl hM0
  · intro zo X hzo hXn hXG hXr
    have hXu : 8 ∈ looks _ zo → X.lookup 8 = some (.pbox 8 0) := fun h => (hXr 8 h).trans rfl
    have hXv : 44 ∈ looks _ zo → X.lookup 44 = some (.v .pl (dfa (joinZ andB A ([sizedP m A.size, dfaP m, A, zeroD].getD i default)))) := fun h => (hXr 44 h).trans rfl
    injection (show some _ = some zo from hzo) with hzo'
    exact step_storeE (by rw [← hzo']; rfl) (step_storeD (u := 8) (v := 44) (id := 8) (by rw [← hzo']; rfl) (by rw [← hzo']; rfl) hXn sz31 (hXu (by rw [← hzo']; decide)) rfl (hXv (by rw [← hzo']; decide)) rfl (by decide) rfl rfl (fun t' z h => all_stays0 (by rfl) (hXG t' z h)) rfl hM0)
  refine endL_of (n := 0) (by kernel_rfl) ?_
  refine ex_end (by kernel_rfl) ?_
  refine xD tb hM0 2 [5,6,7,8,9] [8] rfl ?_
  refine code_frz 121 [(5, _), (6, _), (7, _), (8, _), (9, _)] [] hM0 rfl ⟨.inl rfl, .inl rfl, .inl rfl, .inr ⟨_, _, rfl, rfl, rfl⟩, .inl rfl, trivial⟩ trivial ?_
  refine code_drawE (n := 121) (om := [(10, .box 31 [.v .pl (.sc (.int .i64 0)), .v .pl (.sc (.slice none 0 0)), .v .pl (.sc (.slice none 0 0))])]) (o2 := [(10, .box 31 [.v .pl (int ((joinZ andB A ([sizedP m A.size, dfaP m, A, zeroD].getD i default))).size), .v .pl (rowsA ((joinZ andB A ([sizedP m A.size, dfaP m, A, zeroD].getD i default))).next), .v .pl (boolsA ((joinZ andB A ([sizedP m A.size, dfaP m, A, zeroD].getD i default))).fin)])]) 9 10 12 [(47, .v .pl (dfa A)), (48, .v .pl (.sl ([sizedP m A.size, dfaP m, A, zeroD].map dfa))), (49, .v .pl (int i)), (50, .v .pl (.pc (dcells ([sizedP m A.size, dfaP m, A, zeroD].getD i default)) 0)), (51, .v .pl (dfa ([sizedP m A.size, dfaP m, A, zeroD].getD i default))), (52, .v .pl (.tup [dfa (joinZ andB A ([sizedP m A.size, dfaP m, A, zeroD].getD i default)), int (joinE A ([sizedP m A.size, dfaP m, A, zeroD].getD i default))])), (46, .v .pl (.tup [dfa (joinZ andB A ([sizedP m A.size, dfaP m, A, zeroD].getD i default)), int (joinE A ([sizedP m A.size, dfaP m, A, zeroD].getD i default))])), (53, .v .pl (dfa (joinZ andB A ([sizedP m A.size, dfaP m, A, zeroD].getD i default)))), (54, .v .pl (int (joinE A ([sizedP m A.size, dfaP m, A, zeroD].getD i default)))), (10, .pbox 10 0), (11, .v .pl (int (joinE A ([sizedP m A.size, dfaP m, A, zeroD].getD i default)))), (5, .v .pl (dpc A)), (6, .v .pl (.sl ([sizedP m A.size, dfaP m, A, zeroD].map dfa))), (7, .v .pl (int i)), (8, .v .pl (dpc (joinZ andB A ([sizedP m A.size, dfaP m, A, zeroD].getD i default)))), (9, .v .pl (int (joinE A ([sizedP m A.size, dfaP m, A, zeroD].getD i default))))] mixed (by kernel_rfl) (by kernel_rfl) (by kernel_rfl) (by kernel_rfl) rfl (by kernel_rfl) rfl (fun t z h => h) rfl ?_ ?_ ?_ ?_ ?_ ?_ ?_
  · intro zi zt hzi hzd
    rcases (by omega : zi = 0 ∨ zi = 1 ∨ zi = 2 ∨ zi = 3 ∨ zi = 4 ∨ zi = 5 ∨ zi = 6 ∨ zi = 7 ∨ zi = 8 ∨ zi = 9 ∨ zi = 10 ∨ zi = 11) with rfl | rfl | rfl | rfl | rfl | rfl | rfl | rfl | rfl | rfl | rfl | rfl
    · injection (show some _ = some zt from hzd) with hzd; subst hzd; exact ⟨_, rfl⟩
    · injection (show some _ = some zt from hzd) with hzd; subst hzd; exact ⟨_, rfl⟩
    · injection (show some _ = some zt from hzd) with hzd; subst hzd; exact ⟨_, rfl⟩
    · injection (show some _ = some zt from hzd) with hzd; subst hzd; exact ⟨_, rfl⟩
    · injection (show some _ = some zt from hzd) with hzd; subst hzd; exact ⟨_, rfl⟩
    · injection (show some _ = some zt from hzd) with hzd; subst hzd; exact ⟨_, rfl⟩
    · injection (show some _ = some zt from hzd) with hzd; subst hzd; exact ⟨_, rfl⟩
    · injection (show some _ = some zt from hzd) with hzd; subst hzd; exact ⟨_, rfl⟩
    · injection (show some _ = some zt from hzd) with hzd; subst hzd; exact ⟨_, rfl⟩
    · injection (show some _ = some zt from hzd) with hzd; subst hzd; exact ⟨_, rfl⟩
    · cases (show (none : Option Nat) = some zt from hzd)
    · injection (show some _ = some zt from hzd) with hzd; subst hzd; exact ⟨_, rfl⟩
  · intro zi zo zt zd hzi hzia hzib hzo hzd hzG hzn
    rcases (by omega : zi = 0 ∨ zi = 1 ∨ zi = 2 ∨ zi = 3 ∨ zi = 4 ∨ zi = 5 ∨ zi = 6 ∨ zi = 7 ∨ zi = 8 ∨ zi = 11) with rfl | rfl | rfl | rfl | rfl | rfl | rfl | rfl | rfl | rfl
    · injection (show some _ = some zo from hzo) with hzo; subst hzo; injection (show some _ = some zt from hzd) with hzd; subst hzd; injection (show some _ = some zd from hzG) with hzG; subst hzG
      exact (pure_norm (pure_load_agg rfl ag31 sz31 rfl (Nat.le_of_ble_eq_true rfl)) rfl)
    · injection (show some _ = some zo from hzo) with hzo; subst hzo; injection (show some _ = some zt from hzd) with hzd; subst hzd; injection (show some _ = some zd from hzG) with hzG; subst hzG
      exact (pure_move rfl rfl)
    · injection (show some _ = some zo from hzo) with hzo; subst hzo; injection (show some _ = some zt from hzd) with hzd; subst hzd; injection (show some _ = some zd from hzG) with hzG; subst hzG
      exact (pure_move rfl rfl)
    · injection (show some _ = some zo from hzo) with hzo; subst hzo; injection (show some _ = some zt from hzd) with hzd; subst hzd; injection (show some _ = some zd from hzG) with hzG; subst hzG
      exact (pure_ix (f := dfa) (l := [sizedP m A.size, dfaP m, A, zeroD]) rfl Tryz.underlying40 sz31 rfl rfl (by omega) (fun _ => rfl))
    · injection (show some _ = some zo from hzo) with hzo; subst hzo; injection (show some _ = some zt from hzd) with hzd; subst hzd; injection (show some _ = some zd from hzG) with hzG; subst hzG
      exact (pure_norm (pure_load_agg rfl ag31 sz31 rfl (Nat.le_of_ble_eq_true rfl)) rfl)
    · injection (show some _ = some zo from hzo) with hzo; subst hzo; injection (show some _ = some zt from hzd) with hzd; subst hzd; injection (show some _ = some zd from hzG) with hzG; subst hzG
      exact (pure_callD rfl rfl rfl (rboth_call (a := A) (b := ([sizedP m A.size, dfaP m, A, zeroD].getD i default)) (Nat.le_trans hXm (by decide))) hM0)
    · injection (show some _ = some zo from hzo) with hzo; subst hzo; injection (show some _ = some zt from hzd) with hzd; subst hzd; injection (show some _ = some zd from hzG) with hzG; subst hzG
      exact (pure_move rfl rfl)
    · injection (show some _ = some zo from hzo) with hzo; subst hzo; injection (show some _ = some zt from hzd) with hzd; subst hzd; injection (show some _ = some zd from hzG) with hzG; subst hzG
      exact (pure_extract rfl rfl rfl)
    · injection (show some _ = some zo from hzo) with hzo; subst hzo; injection (show some _ = some zt from hzd) with hzd; subst hzd; injection (show some _ = some zd from hzG) with hzG; subst hzG
      exact (pure_extract rfl rfl rfl)
    · first | exact absurd hzn (by decide)
  · intro zi zo zt zd hzi hzia hzib hzo hzd hzG hzn hzn2
    rcases (by omega : zi = 0 ∨ zi = 1 ∨ zi = 2 ∨ zi = 3 ∨ zi = 4 ∨ zi = 5 ∨ zi = 6 ∨ zi = 7 ∨ zi = 8 ∨ zi = 11) with rfl | rfl | rfl | rfl | rfl | rfl | rfl | rfl | rfl | rfl
    · injection (show some _ = some zo from hzo) with hzo; subst hzo; injection (show some _ = some zt from hzd) with hzd; subst hzd; injection (show some _ = some zd from hzG) with hzG; subst hzG
      exact (pure_norm (pure_load_agg rfl ag31 sz31 rfl (Nat.le_of_ble_eq_true rfl)) rfl)
    · injection (show some _ = some zo from hzo) with hzo; subst hzo; injection (show some _ = some zt from hzd) with hzd; subst hzd; injection (show some _ = some zd from hzG) with hzG; subst hzG
      exact (pure_move rfl rfl)
    · injection (show some _ = some zo from hzo) with hzo; subst hzo; injection (show some _ = some zt from hzd) with hzd; subst hzd; injection (show some _ = some zd from hzG) with hzG; subst hzG
      exact (pure_move rfl rfl)
    · injection (show some _ = some zo from hzo) with hzo; subst hzo; injection (show some _ = some zt from hzd) with hzd; subst hzd; injection (show some _ = some zd from hzG) with hzG; subst hzG
      exact (pure_ix (f := dfa) (l := [sizedP m A.size, dfaP m, A, zeroD]) rfl Tryz.underlying40 sz31 rfl rfl (by omega) (fun _ => rfl))
    · injection (show some _ = some zo from hzo) with hzo; subst hzo; injection (show some _ = some zt from hzd) with hzd; subst hzd; injection (show some _ = some zd from hzG) with hzG; subst hzG
      exact (pure_norm (pure_load_agg rfl ag31 sz31 rfl (Nat.le_of_ble_eq_true rfl)) rfl)
    · injection (show some _ = some zo from hzo) with hzo; subst hzo; injection (show some _ = some zt from hzd) with hzd; subst hzd; injection (show some _ = some zd from hzG) with hzG; subst hzG
      exact (pure_callD rfl rfl rfl (rboth_call (a := A) (b := ([sizedP m A.size, dfaP m, A, zeroD].getD i default)) (Nat.le_trans hXm (by decide))) hM0)
    · injection (show some _ = some zo from hzo) with hzo; subst hzo; injection (show some _ = some zt from hzd) with hzd; subst hzd; injection (show some _ = some zd from hzG) with hzG; subst hzG
      exact (pure_move rfl rfl)
    · injection (show some _ = some zo from hzo) with hzo; subst hzo; injection (show some _ = some zt from hzd) with hzd; subst hzd; injection (show some _ = some zd from hzG) with hzG; subst hzG
      exact (pure_extract rfl rfl rfl)
    · injection (show some _ = some zo from hzo) with hzo; subst hzo; injection (show some _ = some zt from hzd) with hzd; subst hzd; injection (show some _ = some zd from hzG) with hzG; subst hzG
      exact (pure_extract rfl rfl rfl)
    · first | exact absurd hzn (by decide) | exact absurd hzn2 (by decide)
  · intro zi zo zt zd hzi hzia hzib hzo hzd hzG hzn
    rcases (by omega : zi = 0 ∨ zi = 1 ∨ zi = 2 ∨ zi = 3 ∨ zi = 4 ∨ zi = 5 ∨ zi = 6 ∨ zi = 7 ∨ zi = 8 ∨ zi = 11) with rfl | rfl | rfl | rfl | rfl | rfl | rfl | rfl | rfl | rfl
    · first | exact absurd hzn (by decide)
    · first | exact absurd hzn (by decide)
    · first | exact absurd hzn (by decide)
    · first | exact absurd hzn (by decide)
    · first | exact absurd hzn (by decide)
    · first | exact absurd hzn (by decide)
    · first | exact absurd hzn (by decide)
    · first | exact absurd hzn (by decide)
    · injection (show some _ = some zo from hzo) with hzo; subst hzo; injection (show some _ = some zt from hzd) with hzd; subst hzd; injection (show some _ = some zd from hzG) with hzG; subst hzG
      exact (pure_extract rfl rfl rfl)
    · injection (show some _ = some zo from hzo) with hzo; subst hzo; injection (show some _ = some zt from hzd) with hzd; subst hzd; injection (show some _ = some zd from hzG) with hzG; subst hzG
      exact (pure_assign rfl rfl)
  · intro zo X hzo hXn hXG hXr
    injection (show some _ = some zo from hzo) with hzo'
    exact step_allocD (t := 10) (by rw [← hzo']; rfl) (by rw [← hzo']; rfl) rfl rfl hXn ze31 rfl rfl (fun t' z h hne => all_stays (by rfl) (hXG t' z h) hne) rfl hM0
  · intro zo X hzo hXn hXG hXr
    have hXu : 10 ∈ looks _ zo → X.lookup 10 = some (.pbox 10 0) := fun h => (hXr 10 h).trans rfl
    have hXv : 53 ∈ looks _ zo → X.lookup 53 = some (.v .pl (dfa (joinZ andB A ([sizedP m A.size, dfaP m, A, zeroD].getD i default)))) := fun h => (hXr 53 h).trans rfl
    injection (show some _ = some zo from hzo) with hzo'
    exact step_storeE (by rw [← hzo']; rfl) (step_storeD (u := 10) (v := 53) (id := 10) (by rw [← hzo']; rfl) (by rw [← hzo']; rfl) hXn sz31 (hXu (by rw [← hzo']; decide)) rfl (hXv (by rw [← hzo']; decide)) rfl (by decide) rfl rfl (fun t' z h => all_stays0 (by rfl) (hXG t' z h)) rfl hM0)
  refine endL_of (n := 0) (by kernel_rfl) ?_
  refine ex_end (by kernel_rfl) ?_
  refine xD tb hM0 2 [5,6,7,8,9,10,11] [10] rfl ?_
  refine code_frz 121 [(5, _), (6, _), (7, _), (8, _), (9, _), (10, _), (11, _)] [] hM0 rfl ⟨.inl rfl, .inl rfl, .inl rfl, .inl rfl, .inl rfl, .inr ⟨_, _, rfl, rfl, rfl⟩, .inl rfl, trivial⟩ trivial ?_
  refine code_drawE (n := 121) (om := [(12, .box 31 [.v .pl (.sc (.int .i64 0)), .v .pl (.sc (.slice none 0 0)), .v .pl (.sc (.slice none 0 0))])]) (o2 := [(12, .box 31 [.v .pl (int ((joinZ orB A ([sizedP m A.size, dfaP m, A, zeroD].getD i default))).size), .v .pl (rowsA ((joinZ orB A ([sizedP m A.size, dfaP m, A, zeroD].getD i default))).next), .v .pl (boolsA ((joinZ orB A ([sizedP m A.size, dfaP m, A, zeroD].getD i default))).fin)])]) 9 10 12 [(56, .v .pl (dfa A)), (57, .v .pl (.sl ([sizedP m A.size, dfaP m, A, zeroD].map dfa))), (58, .v .pl (int i)), (59, .v .pl (.pc (dcells ([sizedP m A.size, dfaP m, A, zeroD].getD i default)) 0)), (60, .v .pl (dfa ([sizedP m A.size, dfaP m, A, zeroD].getD i default))), (61, .v .pl (.tup [dfa (joinZ orB A ([sizedP m A.size, dfaP m, A, zeroD].getD i default)), int (joinE A ([sizedP m A.size, dfaP m, A, zeroD].getD i default))])), (55, .v .pl (.tup [dfa (joinZ orB A ([sizedP m A.size, dfaP m, A, zeroD].getD i default)), int (joinE A ([sizedP m A.size, dfaP m, A, zeroD].getD i default))])), (62, .v .pl (dfa (joinZ orB A ([sizedP m A.size, dfaP m, A, zeroD].getD i default)))), (63, .v .pl (int (joinE A ([sizedP m A.size, dfaP m, A, zeroD].getD i default)))), (12, .pbox 12 0), (13, .v .pl (int (joinE A ([sizedP m A.size, dfaP m, A, zeroD].getD i default)))), (5, .v .pl (dpc A)), (6, .v .pl (.sl ([sizedP m A.size, dfaP m, A, zeroD].map dfa))), (7, .v .pl (int i)), (8, .v .pl (dpc (joinZ andB A ([sizedP m A.size, dfaP m, A, zeroD].getD i default)))), (9, .v .pl (int (joinE A ([sizedP m A.size, dfaP m, A, zeroD].getD i default)))), (10, .v .pl (dpc (joinZ andB A ([sizedP m A.size, dfaP m, A, zeroD].getD i default)))), (11, .v .pl (int (joinE A ([sizedP m A.size, dfaP m, A, zeroD].getD i default))))] mixed (by kernel_rfl) (by kernel_rfl) (by kernel_rfl) (by kernel_rfl) rfl (by kernel_rfl) rfl (fun t z h => h) rfl ?_ ?_ ?_ ?_ ?_ ?_ ?_
  · intro zi zt hzi hzd
    rcases (by omega : zi = 0 ∨ zi = 1 ∨ zi = 2 ∨ zi = 3 ∨ zi = 4 ∨ zi = 5 ∨ zi = 6 ∨ zi = 7 ∨ zi = 8 ∨ zi = 9 ∨ zi = 10 ∨ zi = 11) with rfl | rfl | rfl | rfl | rfl | rfl | rfl | rfl | rfl | rfl | rfl | rfl
    · injection (show some _ = some zt from hzd) with hzd; subst hzd; exact ⟨_, rfl⟩
    · injection (show some _ = some zt from hzd) with hzd; subst hzd; exact ⟨_, rfl⟩
    · injection (show some _ = some zt from hzd) with hzd; subst hzd; exact ⟨_, rfl⟩
    · injection (show some _ = some zt from hzd) with hzd; subst hzd; exact ⟨_, rfl⟩
    · injection (show some _ = some zt from hzd) with hzd; subst hzd; exact ⟨_, rfl⟩
    · injection (show some _ = some zt from hzd) with hzd; subst hzd; exact ⟨_, rfl⟩
    · injection (show some _ = some zt from hzd) with hzd; subst hzd; exact ⟨_, rfl⟩
    · injection (show some _ = some zt from hzd) with hzd; subst hzd; exact ⟨_, rfl⟩
    · injection (show some _ = some zt from hzd) with hzd; subst hzd; exact ⟨_, rfl⟩
    · injection (show some _ = some zt from hzd) with hzd; subst hzd; exact ⟨_, rfl⟩
    · cases (show (none : Option Nat) = some zt from hzd)
    · injection (show some _ = some zt from hzd) with hzd; subst hzd; exact ⟨_, rfl⟩
  · intro zi zo zt zd hzi hzia hzib hzo hzd hzG hzn
    rcases (by omega : zi = 0 ∨ zi = 1 ∨ zi = 2 ∨ zi = 3 ∨ zi = 4 ∨ zi = 5 ∨ zi = 6 ∨ zi = 7 ∨ zi = 8 ∨ zi = 11) with rfl | rfl | rfl | rfl | rfl | rfl | rfl | rfl | rfl | rfl
    · injection (show some _ = some zo from hzo) with hzo; subst hzo; injection (show some _ = some zt from hzd) with hzd; subst hzd; injection (show some _ = some zd from hzG) with hzG; subst hzG
      exact (pure_norm (pure_load_agg rfl ag31 sz31 rfl (Nat.le_of_ble_eq_true rfl)) rfl)
    · injection (show some _ = some zo from hzo) with hzo; subst hzo; injection (show some _ = some zt from hzd) with hzd; subst hzd; injection (show some _ = some zd from hzG) with hzG; subst hzG
      exact (pure_move rfl rfl)
    · injection (show some _ = some zo from hzo) with hzo; subst hzo; injection (show some _ = some zt from hzd) with hzd; subst hzd; injection (show some _ = some zd from hzG) with hzG; subst hzG
      exact (pure_move rfl rfl)
    · injection (show some _ = some zo from hzo) with hzo; subst hzo; injection (show some _ = some zt from hzd) with hzd; subst hzd; injection (show some _ = some zd from hzG) with hzG; subst hzG
      exact (pure_ix (f := dfa) (l := [sizedP m A.size, dfaP m, A, zeroD]) rfl Tryz.underlying40 sz31 rfl rfl (by omega) (fun _ => rfl))
    · injection (show some _ = some zo from hzo) with hzo; subst hzo; injection (show some _ = some zt from hzd) with hzd; subst hzd; injection (show some _ = some zd from hzG) with hzG; subst hzG
      exact (pure_norm (pure_load_agg rfl ag31 sz31 rfl (Nat.le_of_ble_eq_true rfl)) rfl)
    · injection (show some _ = some zo from hzo) with hzo; subst hzo; injection (show some _ = some zt from hzd) with hzd; subst hzd; injection (show some _ = some zd from hzG) with hzG; subst hzG
      exact (pure_callD rfl rfl rfl (either_call (a := A) (b := ([sizedP m A.size, dfaP m, A, zeroD].getD i default)) (Nat.le_trans hXm (by decide))) hM0)
    · injection (show some _ = some zo from hzo) with hzo; subst hzo; injection (show some _ = some zt from hzd) with hzd; subst hzd; injection (show some _ = some zd from hzG) with hzG; subst hzG
      exact (pure_move rfl rfl)
    · injection (show some _ = some zo from hzo) with hzo; subst hzo; injection (show some _ = some zt from hzd) with hzd; subst hzd; injection (show some _ = some zd from hzG) with hzG; subst hzG
      exact (pure_extract rfl rfl rfl)
    · injection (show some _ = some zo from hzo) with hzo; subst hzo; injection (show some _ = some zt from hzd) with hzd; subst hzd; injection (show some _ = some zd from hzG) with hzG; subst hzG
      exact (pure_extract rfl rfl rfl)
    · first | exact absurd hzn (by decide)
  · intro zi zo zt zd hzi hzia hzib hzo hzd hzG hzn hzn2
    rcases (by omega : zi = 0 ∨ zi = 1 ∨ zi = 2 ∨ zi = 3 ∨ zi = 4 ∨ zi = 5 ∨ zi = 6 ∨ zi = 7 ∨ zi = 8 ∨ zi = 11) with rfl | rfl | rfl | rfl | rfl | rfl | rfl | rfl | rfl | rfl
    · injection (show some _ = some zo from hzo) with hzo; subst hzo; injection (show some _ = some zt from hzd) with hzd; subst hzd; injection (show some _ = some zd from hzG) with hzG; subst hzG
      exact (pure_norm (pure_load_agg rfl ag31 sz31 rfl (Nat.le_of_ble_eq_true rfl)) rfl)
    · injection (show some _ = some zo from hzo) with hzo; subst hzo; injection (show some _ = some zt from hzd) with hzd; subst hzd; injection (show some _ = some zd from hzG) with hzG; subst hzG
      exact (pure_move rfl rfl)
    · injection (show some _ = some zo from hzo) with hzo; subst hzo; injection (show some _ = some zt from hzd) with hzd; subst hzd; injection (show some _ = some zd from hzG) with hzG; subst hzG
      exact (pure_move rfl rfl)
    · injection (show some _ = some zo from hzo) with hzo; subst hzo; injection (show some _ = some zt from hzd) with hzd; subst hzd; injection (show some _ = some zd from hzG) with hzG; subst hzG
      exact (pure_ix (f := dfa) (l := [sizedP m A.size, dfaP m, A, zeroD]) rfl Tryz.underlying40 sz31 rfl rfl (by omega) (fun _ => rfl))
    · injection (show some _ = some zo from hzo) with hzo; subst hzo; injection (show some _ = some zt from hzd) with hzd; subst hzd; injection (show some _ = some zd from hzG) with hzG; subst hzG
      exact (pure_norm (pure_load_agg rfl ag31 sz31 rfl (Nat.le_of_ble_eq_true rfl)) rfl)
    · injection (show some _ = some zo from hzo) with hzo; subst hzo; injection (show some _ = some zt from hzd) with hzd; subst hzd; injection (show some _ = some zd from hzG) with hzG; subst hzG
      exact (pure_callD rfl rfl rfl (either_call (a := A) (b := ([sizedP m A.size, dfaP m, A, zeroD].getD i default)) (Nat.le_trans hXm (by decide))) hM0)
    · injection (show some _ = some zo from hzo) with hzo; subst hzo; injection (show some _ = some zt from hzd) with hzd; subst hzd; injection (show some _ = some zd from hzG) with hzG; subst hzG
      exact (pure_move rfl rfl)
    · injection (show some _ = some zo from hzo) with hzo; subst hzo; injection (show some _ = some zt from hzd) with hzd; subst hzd; injection (show some _ = some zd from hzG) with hzG; subst hzG
      exact (pure_extract rfl rfl rfl)
    · injection (show some _ = some zo from hzo) with hzo; subst hzo; injection (show some _ = some zt from hzd) with hzd; subst hzd; injection (show some _ = some zd from hzG) with hzG; subst hzG
      exact (pure_extract rfl rfl rfl)
    · first | exact absurd hzn (by decide) | exact absurd hzn2 (by decide)
  · intro zi zo zt zd hzi hzia hzib hzo hzd hzG hzn
    rcases (by omega : zi = 0 ∨ zi = 1 ∨ zi = 2 ∨ zi = 3 ∨ zi = 4 ∨ zi = 5 ∨ zi = 6 ∨ zi = 7 ∨ zi = 8 ∨ zi = 11) with rfl | rfl | rfl | rfl | rfl | rfl | rfl | rfl | rfl | rfl
    · first | exact absurd hzn (by decide)
    · first | exact absurd hzn (by decide)
    · first | exact absurd hzn (by decide)
    · first | exact absurd hzn (by decide)
    · first | exact absurd hzn (by decide)
    · first | exact absurd hzn (by decide)
    · first | exact absurd hzn (by decide)
    · first | exact absurd hzn (by decide)
    · injection (show some _ = some zo from hzo) with hzo; subst hzo; injection (show some _ = some zt from hzd) with hzd; subst hzd; injection (show some _ = some zd from hzG) with hzG; subst hzG
      exact (pure_extract rfl rfl rfl)
    · injection (show some _ = some zo from hzo) with hzo; subst hzo; injection (show some _ = some zt from hzd) with hzd; subst hzd; injection (show some _ = some zd from hzG) with hzG; subst hzG
      exact (pure_assign rfl rfl)
  · intro zo X hzo hXn hXG hXr
    injection (show some _ = some zo from hzo) with hzo'
    exact step_allocD (t := 12) (by rw [← hzo']; rfl) (by rw [← hzo']; rfl) rfl rfl hXn ze31 rfl rfl (fun t' z h hne => all_stays (by rfl) (hXG t' z h) hne) rfl hM0
  · intro zo X hzo hXn hXG hXr
    have hXu : 12 ∈ looks _ zo → X.lookup 12 = some (.pbox 12 0) := fun h => (hXr 12 h).trans rfl
    have hXv : 62 ∈ looks _ zo → X.lookup 62 = some (.v .pl (dfa (joinZ orB A ([sizedP m A.size, dfaP m, A, zeroD].getD i default)))) := fun h => (hXr 62 h).trans rfl
    injection (show some _ = some zo from hzo) with hzo'
    exact step_storeE (by rw [← hzo']; rfl) (step_storeD (u := 12) (v := 62) (id := 12) (by rw [← hzo']; rfl) (by rw [← hzo']; rfl) hXn sz31 (hXu (by rw [← hzo']; decide)) rfl (hXv (by rw [← hzo']; decide)) rfl (by decide) rfl rfl (fun t' z h => all_stays0 (by rfl) (hXG t' z h)) rfl hM0)
  refine endL_of (n := 0) (by kernel_rfl) ?_
  refine ex_end (by kernel_rfl) ?_
  refine xD tb hM0 2 [5,6,7,8,9,10,11,12,13] [12] rfl ?_
  refine code_frz 121 [(5, _), (6, _), (7, _), (8, _), (9, _), (10, _), (11, _), (12, _), (13, _)] [] hM0 rfl ⟨.inl rfl, .inl rfl, .inl rfl, .inl rfl, .inl rfl, .inl rfl, .inl rfl, .inr ⟨_, _, rfl, rfl, rfl⟩, .inl rfl, trivial⟩ trivial ?_
  refine code_drawE (n := 121) (om := [(14, .box 31 [.v .pl (.sc (.int .i64 0)), .v .pl (.sc (.slice none 0 0)), .v .pl (.sc (.slice none 0 0))])]) (o2 := [(14, .box 31 [.v .pl (int ((joinZ orB A ([sizedP m A.size, dfaP m, A, zeroD].getD i default))).size), .v .pl (rowsA ((joinZ orB A ([sizedP m A.size, dfaP m, A, zeroD].getD i default))).next), .v .pl (boolsA ((joinZ orB A ([sizedP m A.size, dfaP m, A, zeroD].getD i default))).fin)])]) 9 10 12 [(65, .v .pl (dfa A)), (66, .v .pl (.sl ([sizedP m A.size, dfaP m, A, zeroD].map dfa))), (67, .v .pl (int i)), (68, .v .pl (.pc (dcells ([sizedP m A.size, dfaP m, A, zeroD].getD i default)) 0)), (69, .v .pl (dfa ([sizedP m A.size, dfaP m, A, zeroD].getD i default))), (70, .v .pl (.tup [dfa (joinZ orB A ([sizedP m A.size, dfaP m, A, zeroD].getD i default)), int (joinE A ([sizedP m A.size, dfaP m, A, zeroD].getD i default))])), (64, .v .pl (.tup [dfa (joinZ orB A ([sizedP m A.size, dfaP m, A, zeroD].getD i default)), int (joinE A ([sizedP m A.size, dfaP m, A, zeroD].getD i default))])), (71, .v .pl (dfa (joinZ orB A ([sizedP m A.size, dfaP m, A, zeroD].getD i default)))), (72, .v .pl (int (joinE A ([sizedP m A.size, dfaP m, A, zeroD].getD i default)))), (14, .pbox 14 0), (15, .v .pl (int (joinE A ([sizedP m A.size, dfaP m, A, zeroD].getD i default)))), (5, .v .pl (dpc A)), (6, .v .pl (.sl ([sizedP m A.size, dfaP m, A, zeroD].map dfa))), (7, .v .pl (int i)), (8, .v .pl (dpc (joinZ andB A ([sizedP m A.size, dfaP m, A, zeroD].getD i default)))), (9, .v .pl (int (joinE A ([sizedP m A.size, dfaP m, A, zeroD].getD i default)))), (10, .v .pl (dpc (joinZ andB A ([sizedP m A.size, dfaP m, A, zeroD].getD i default)))), (11, .v .pl (int (joinE A ([sizedP m A.size, dfaP m, A, zeroD].getD i default)))), (12, .v .pl (dpc (joinZ orB A ([sizedP m A.size, dfaP m, A, zeroD].getD i default)))), (13, .v .pl (int (joinE A ([sizedP m A.size, dfaP m, A, zeroD].getD i default))))] mixed (by kernel_rfl) (by kernel_rfl) (by kernel_rfl) (by kernel_rfl) rfl (by kernel_rfl) rfl (fun t z h => h) rfl ?_ ?_ ?_ ?_ ?_ ?_ ?_
  · intro zi zt hzi hzd
    rcases (by omega : zi = 0 ∨ zi = 1 ∨ zi = 2 ∨ zi = 3 ∨ zi = 4 ∨ zi = 5 ∨ zi = 6 ∨ zi = 7 ∨ zi = 8 ∨ zi = 9 ∨ zi = 10 ∨ zi = 11) with rfl | rfl | rfl | rfl | rfl | rfl | rfl | rfl | rfl | rfl | rfl | rfl
    · injection (show some _ = some zt from hzd) with hzd; subst hzd; exact ⟨_, rfl⟩
    · injection (show some _ = some zt from hzd) with hzd; subst hzd; exact ⟨_, rfl⟩
    · injection (show some _ = some zt from hzd) with hzd; subst hzd; exact ⟨_, rfl⟩
    · injection (show some _ = some zt from hzd) with hzd; subst hzd; exact ⟨_, rfl⟩
    · injection (show some _ = some zt from hzd) with hzd; subst hzd; exact ⟨_, rfl⟩
    · injection (show some _ = some zt from hzd) with hzd; subst hzd; exact ⟨_, rfl⟩
    · injection (show some _ = some zt from hzd) with hzd; subst hzd; exact ⟨_, rfl⟩
    · injection (show some _ = some zt from hzd) with hzd; subst hzd; exact ⟨_, rfl⟩
    · injection (show some _ = some zt from hzd) with hzd; subst hzd; exact ⟨_, rfl⟩
    · injection (show some _ = some zt from hzd) with hzd; subst hzd; exact ⟨_, rfl⟩
    · cases (show (none : Option Nat) = some zt from hzd)
    · injection (show some _ = some zt from hzd) with hzd; subst hzd; exact ⟨_, rfl⟩
  · intro zi zo zt zd hzi hzia hzib hzo hzd hzG hzn
    rcases (by omega : zi = 0 ∨ zi = 1 ∨ zi = 2 ∨ zi = 3 ∨ zi = 4 ∨ zi = 5 ∨ zi = 6 ∨ zi = 7 ∨ zi = 8 ∨ zi = 11) with rfl | rfl | rfl | rfl | rfl | rfl | rfl | rfl | rfl | rfl
    · injection (show some _ = some zo from hzo) with hzo; subst hzo; injection (show some _ = some zt from hzd) with hzd; subst hzd; injection (show some _ = some zd from hzG) with hzG; subst hzG
      exact (pure_norm (pure_load_agg rfl ag31 sz31 rfl (Nat.le_of_ble_eq_true rfl)) rfl)
    · injection (show some _ = some zo from hzo) with hzo; subst hzo; injection (show some _ = some zt from hzd) with hzd; subst hzd; injection (show some _ = some zd from hzG) with hzG; subst hzG
      exact (pure_move rfl rfl)
    · injection (show some _ = some zo from hzo) with hzo; subst hzo; injection (show some _ = some zt from hzd) with hzd; subst hzd; injection (show some _ = some zd from hzG) with hzG; subst hzG
      exact (pure_move rfl rfl)
    · injection (show some _ = some zo from hzo) with hzo; subst hzo; injection (show some _ = some zt from hzd) with hzd; subst hzd; injection (show some _ = some zd from hzG) with hzG; subst hzG
      exact (pure_ix (f := dfa) (l := [sizedP m A.size, dfaP m, A, zeroD]) rfl Tryz.underlying40 sz31 rfl rfl (by omega) (fun _ => rfl))
    · injection (show some _ = some zo from hzo) with hzo; subst hzo; injection (show some _ = some zt from hzd) with hzd; subst hzd; injection (show some _ = some zd from hzG) with hzG; subst hzG
      exact (pure_norm (pure_load_agg rfl ag31 sz31 rfl (Nat.le_of_ble_eq_true rfl)) rfl)
    · injection (show some _ = some zo from hzo) with hzo; subst hzo; injection (show some _ = some zt from hzd) with hzd; subst hzd; injection (show some _ = some zd from hzG) with hzG; subst hzG
      exact (pure_callD rfl rfl rfl (reither_call (a := A) (b := ([sizedP m A.size, dfaP m, A, zeroD].getD i default)) (Nat.le_trans hXm (by decide))) hM0)
    · injection (show some _ = some zo from hzo) with hzo; subst hzo; injection (show some _ = some zt from hzd) with hzd; subst hzd; injection (show some _ = some zd from hzG) with hzG; subst hzG
      exact (pure_move rfl rfl)
    · injection (show some _ = some zo from hzo) with hzo; subst hzo; injection (show some _ = some zt from hzd) with hzd; subst hzd; injection (show some _ = some zd from hzG) with hzG; subst hzG
      exact (pure_extract rfl rfl rfl)
    · injection (show some _ = some zo from hzo) with hzo; subst hzo; injection (show some _ = some zt from hzd) with hzd; subst hzd; injection (show some _ = some zd from hzG) with hzG; subst hzG
      exact (pure_extract rfl rfl rfl)
    · first | exact absurd hzn (by decide)
  · intro zi zo zt zd hzi hzia hzib hzo hzd hzG hzn hzn2
    rcases (by omega : zi = 0 ∨ zi = 1 ∨ zi = 2 ∨ zi = 3 ∨ zi = 4 ∨ zi = 5 ∨ zi = 6 ∨ zi = 7 ∨ zi = 8 ∨ zi = 11) with rfl | rfl | rfl | rfl | rfl | rfl | rfl | rfl | rfl | rfl
    · injection (show some _ = some zo from hzo) with hzo; subst hzo; injection (show some _ = some zt from hzd) with hzd; subst hzd; injection (show some _ = some zd from hzG) with hzG; subst hzG
      exact (pure_norm (pure_load_agg rfl ag31 sz31 rfl (Nat.le_of_ble_eq_true rfl)) rfl)
    · injection (show some _ = some zo from hzo) with hzo; subst hzo; injection (show some _ = some zt from hzd) with hzd; subst hzd; injection (show some _ = some zd from hzG) with hzG; subst hzG
      exact (pure_move rfl rfl)
    · injection (show some _ = some zo from hzo) with hzo; subst hzo; injection (show some _ = some zt from hzd) with hzd; subst hzd; injection (show some _ = some zd from hzG) with hzG; subst hzG
      exact (pure_move rfl rfl)
    · injection (show some _ = some zo from hzo) with hzo; subst hzo; injection (show some _ = some zt from hzd) with hzd; subst hzd; injection (show some _ = some zd from hzG) with hzG; subst hzG
      exact (pure_ix (f := dfa) (l := [sizedP m A.size, dfaP m, A, zeroD]) rfl Tryz.underlying40 sz31 rfl rfl (by omega) (fun _ => rfl))
    · injection (show some _ = some zo from hzo) with hzo; subst hzo; injection (show some _ = some zt from hzd) with hzd; subst hzd; injection (show some _ = some zd from hzG) with hzG; subst hzG
      exact (pure_norm (pure_load_agg rfl ag31 sz31 rfl (Nat.le_of_ble_eq_true rfl)) rfl)
    · injection (show some _ = some zo from hzo) with hzo; subst hzo; injection (show some _ = some zt from hzd) with hzd; subst hzd; injection (show some _ = some zd from hzG) with hzG; subst hzG
      exact (pure_callD rfl rfl rfl (reither_call (a := A) (b := ([sizedP m A.size, dfaP m, A, zeroD].getD i default)) (Nat.le_trans hXm (by decide))) hM0)
    · injection (show some _ = some zo from hzo) with hzo; subst hzo; injection (show some _ = some zt from hzd) with hzd; subst hzd; injection (show some _ = some zd from hzG) with hzG; subst hzG
      exact (pure_move rfl rfl)
    · injection (show some _ = some zo from hzo) with hzo; subst hzo; injection (show some _ = some zt from hzd) with hzd; subst hzd; injection (show some _ = some zd from hzG) with hzG; subst hzG
      exact (pure_extract rfl rfl rfl)
    · injection (show some _ = some zo from hzo) with hzo; subst hzo; injection (show some _ = some zt from hzd) with hzd; subst hzd; injection (show some _ = some zd from hzG) with hzG; subst hzG
      exact (pure_extract rfl rfl rfl)
    · first | exact absurd hzn (by decide) | exact absurd hzn2 (by decide)
  · intro zi zo zt zd hzi hzia hzib hzo hzd hzG hzn
    rcases (by omega : zi = 0 ∨ zi = 1 ∨ zi = 2 ∨ zi = 3 ∨ zi = 4 ∨ zi = 5 ∨ zi = 6 ∨ zi = 7 ∨ zi = 8 ∨ zi = 11) with rfl | rfl | rfl | rfl | rfl | rfl | rfl | rfl | rfl | rfl
    · first | exact absurd hzn (by decide)
    · first | exact absurd hzn (by decide)
    · first | exact absurd hzn (by decide)
    · first | exact absurd hzn (by decide)
    · first | exact absurd hzn (by decide)
    · first | exact absurd hzn (by decide)
    · first | exact absurd hzn (by decide)
    · first | exact absurd hzn (by decide)
    · injection (show some _ = some zo from hzo) with hzo; subst hzo; injection (show some _ = some zt from hzd) with hzd; subst hzd; injection (show some _ = some zd from hzG) with hzG; subst hzG
      exact (pure_extract rfl rfl rfl)
    · injection (show some _ = some zo from hzo) with hzo; subst hzo; injection (show some _ = some zt from hzd) with hzd; subst hzd; injection (show some _ = some zd from hzG) with hzG; subst hzG
      exact (pure_assign rfl rfl)
  · intro zo X hzo hXn hXG hXr
    injection (show some _ = some zo from hzo) with hzo'
    exact step_allocD (t := 14) (by rw [← hzo']; rfl) (by rw [← hzo']; rfl) rfl rfl hXn ze31 rfl rfl (fun t' z h hne => all_stays (by rfl) (hXG t' z h) hne) rfl hM0
  · intro zo X hzo hXn hXG hXr
    have hXu : 14 ∈ looks _ zo → X.lookup 14 = some (.pbox 14 0) := fun h => (hXr 14 h).trans rfl
    have hXv : 71 ∈ looks _ zo → X.lookup 71 = some (.v .pl (dfa (joinZ orB A ([sizedP m A.size, dfaP m, A, zeroD].getD i default)))) := fun h => (hXr 71 h).trans rfl
    injection (show some _ = some zo from hzo) with hzo'
    exact step_storeE (by rw [← hzo']; rfl) (step_storeD (u := 14) (v := 71) (id := 14) (by rw [← hzo']; rfl) (by rw [← hzo']; rfl) hXn sz31 (hXu (by rw [← hzo']; decide)) rfl (hXv (by rw [← hzo']; decide)) rfl (by decide) rfl rfl (fun t' z h => all_stays0 (by rfl) (hXG t' z h)) rfl hM0)
  refine endL_of (n := 0) (by kernel_rfl) ?_
  refine ex_end (by kernel_rfl) ?_
  refine xD tb hM0 2 [5,6,7,8,9,10,11,12,13,14,15] [14] rfl ?_
  refine code_frz 121 [(5, _), (6, _), (7, _), (8, _), (9, _), (10, _), (11, _), (12, _), (13, _), (14, _), (15, _)] [] hM0 rfl ⟨.inl rfl, .inl rfl, .inl rfl, .inl rfl, .inl rfl, .inl rfl, .inl rfl, .inl rfl, .inl rfl, .inr ⟨_, _, rfl, rfl, rfl⟩, .inl rfl, trivial⟩ trivial ?_
  refine xK tb hM0 3 [5,6,7,8,9,10,11,12,13,14,15,74,75] [] rfl ?_
  refine oP rfl (pure_ix (f := dfa) (l := [sizedP m A.size, dfaP m, A, zeroD]) rfl Tryz.underlying40 sz31 rfl rfl (by omega) (fun _ => rfl)) ?_
  refine xA tb hM0 1 [5,6,7,8,9,10,11,12,13,14,15,77] [] rfl ?_
  refine oP rfl (pure_call rfl rfl rfl (reverse_call (d := ([sizedP m A.size, dfaP m, A, zeroD].getD i default)) hXf) hM0) ?_
  refine xA tb hM0 9 [5,6,7,8,9,10,11,12,13,14,15,16,17] [16] rfl ?_
  refine code_frz 121 [(5, _), (6, _), (7, _), (8, _), (9, _), (10, _), (11, _), (12, _), (13, _), (14, _), (15, _), (16, _), (17, _)] [] hM0 rfl ⟨.inl rfl, .inl rfl, .inl rfl, .inl rfl, .inl rfl, .inl rfl, .inl rfl, .inl rfl, .inl rfl, .inl rfl, .inl rfl, .inr ⟨_, _, rfl, rfl, rfl⟩, .inl rfl, trivial⟩ trivial ?_
  refine xK tb hM0 3 [5,6,7,8,9,10,11,12,13,14,15,16,17,82,83] [] rfl ?_
  refine oP rfl (pure_ix (f := dfa) (l := [sizedP m A.size, dfaP m, A, zeroD]) rfl Tryz.underlying40 sz31 rfl rfl (by omega) (fun _ => rfl)) ?_
  refine xA tb hM0 1 [5,6,7,8,9,10,11,12,13,14,15,16,17,85] [] rfl ?_
  refine oP rfl (pure_call rfl rfl rfl (rreverse_call (d := ([sizedP m A.size, dfaP m, A, zeroD].getD i default)) hXf) hM0) ?_
  refine xA tb hM0 9 [5,6,7,8,9,10,11,12,13,14,15,16,17,18,19] [18] rfl ?_
  refine code_frz 121 [(5, _), (6, _), (7, _), (8, _), (9, _), (10, _), (11, _), (12, _), (13, _), (14, _), (15, _), (16, _), (17, _), (18, _), (19, _)] [] hM0 rfl ⟨.inl rfl, .inl rfl, .inl rfl, .inl rfl, .inl rfl, .inl rfl, .inl rfl, .inl rfl, .inl rfl, .inl rfl, .inl rfl, .inl rfl, .inl rfl, .inr ⟨_, _, rfl, rfl, rfl⟩, .inl rfl, trivial⟩ trivial ?_
  refine xK tb hM0 3 [5,6,7,8,10,12,13,14,15,16,17,18,19,89,90] [] rfl ?_
  refine oP rfl (pure_to (b' := false) (pure_neq rfl rfl rfl) (by simp)) ?_
  refine xA tb hM0 3 [5,6,7,8,10,12,14,16,17,18,19,92,93,94] [] rfl ?_
  refine oP rfl (pure_to (b' := false) (pure_neq rfl rfl rfl) (by simp)) ?_
  refine xA tb hM0 4 [5,6,7,8,10,12,14,16,18,97,98,99] [] rfl ?_
  refine oP rfl (pure_to (b' := false) (pure_neq rfl rfl rfl) (by simp)) ?_
  refine xA tb hM0 4 [5,6,7,12,14,16,18,102,103,104] [] rfl ?_
  refine oP rfl (pure_call rfl rfl rfl (sameD_call (z := (joinZ andB A ([sizedP m A.size, dfaP m, A, zeroD].getD i default))) hz1) hM0) ?_
  refine xA tb hM0 5 [5,6,7,16,18,108,109,110] [] rfl ?_
  refine oP rfl (pure_call rfl rfl rfl (sameD_call (z := (joinZ orB A ([sizedP m A.size, dfaP m, A, zeroD].getD i default))) hz2) hM0) ?_
  refine xA tb hM0 5 [5,6,7,114,115,116] [] rfl ?_
  refine oP rfl (pure_call rfl rfl rfl (sameD_call (z := (revZ ([sizedP m A.size, dfaP m, A, zeroD].getD i default))) hz3) hM0) ?_
  refine xA tb hM0 10 [5,6,35] [] rfl ?_
  refine oP rfl (pure_addi rfl rfl rfl (by omega)) ?_
  refine xA tb hM0 2 [5,6,7] [] rfl ?_
  refine nx ?_
  exact ⟨_, ⟨i + 1, rfl, by omega, rfl⟩, by omega⟩
  refine xA tb hM0 8 [] [] rfl ?_
  refine oP rfl (pure_call rfl rfl rfl (lives_call) hM0) ?_
  refine xA tb hM0 4 [] [] rfl ?_
  refine end_ret rfl ?_
  first | rfl | simp_all
/-! The statement AutomatonJoinsSaid. -/
namespace automatonJoins
open Go.ChangeShapes Go.WideShapes Go.ChangeAt Go.RowKit Go.Am
theorem own : ownKnob Tryz.prog.godebug = none := by kernel_rfl
set_option maxRecDepth 100000 in
theorem lifted (os : Os) (started : os.Started) (H : Type) (enc : TypeId × Value → H) :
    ReturnsInHanded {} Tryz.checked os 5 .any (Rows.automatonJoinsSpec.pre6 enc Tryz.prog Tryz.f5 Rows.automatonJoinsRow.domain false) (Rows.automatonJoinsSpec.post enc Tryz.prog Tryz.f5 false true false false) := by
  refine returnsInHanded_of_change (C := Tryz.checked) own started (by kernel_rfl) Tryz.func5
    (ChangeSpec.witness6 (enc := enc) (C := Tryz.checked) false ⟨#[], #[.slice none 0 0, .slice none 0 0], []⟩ 8 (by kernel_rfl) (by kernel_rfl) (by kernel_rfl) (by kernel_rfl)) ?_
  intro W base args ds gs before hval0 hW hcnd _
  have hval : ∀ (j : Nat) t v, Tryz.f5.params[j]? = some t → args[j]? = some v → Value.okWide Tryz.prog W .any base t v := hval0
  have hW' := hW
  obtain ⟨p, q, hA0, hV, rfl, hfz, hnd⟩ := hW
  have hA : DataW.TrodAll enc Tryz.prog W 0 (fun _ => true) true Tryz.f5.params.toList args.toList ds p := hA0
  rw [Tryz.params5] at hA hval
  obtain ⟨v0, vs0, d0, ds0, p0, q0, hargs, rfl, rfl, h0, r0⟩ := trodAll_cons hA
  obtain ⟨v1, vs1, d1, ds1, p1, q1, rfl, rfl, rfl, h1, r1⟩ := trodAll_cons r0
  obtain ⟨rfl, rfl, rfl⟩ := trodAll_nil r1
  obtain rfl : args = #[v0, v1] := by cases args; simp_all
  obtain ⟨x0, y0, z0, e0⟩ := open_intsA Tryz.underlying22 Tryz.underlying3 sz3 (hval 0 22 v0 rfl rfl) h0
  obtain ⟨x1, y1, z1, e1⟩ := open_intsA Tryz.underlying22 Tryz.underlying3 sz3 (hval 1 22 v1 rfl rfl) h1
  have hcall := (joins_law y0 y1).use (w := W) (vs := [v0, v1]) ⟨e0, e1, trivial⟩
  exact law_post (tb := 4) (by kernel_rfl) (by kernel_rfl) (by kernel_rfl) Tryz.underlying4 rfl rfl hW' hcall
theorem over : Rows.automatonJoinsRow.holds Tryz.pinned (OpenSpec.ofChange Rows.automatonJoinsSpec) :=
  OpenClaim.holds_of_wide 5 Tryz.f5 rfl rfl rfl rfl rfl rfl rfl ⟨rfl, rfl, rfl, rfl, rfl⟩ rfl rfl rfl rfl rfl (by kernel_rfl) Tryz.func5 (by kernel_rfl)
    (of_decide_eq_true (by kernel_rfl)) (by unfold Func.isWrapper; first | (rw [if_pos (by decide +kernel)]; kernel_rfl) | (rw [if_neg (by decide +kernel)]; exact ⟨rfl, rfl⟩))
    (fun os started H enc _ => lifted os started H enc)
end automatonJoins
theorem automatonJoins_holds : Rows.AutomatonJoinsSaid := automatonJoins.over
end Go.Proofs.YtjimlkpfmbachaaGreat

