/-
  Contract: the reference's least word.
-/
import Derived.Test.YtjimlkpfmbachaaGreatJ26
import Derived.Test.YtjimlkpfmbachaaGreatJ15
import Derived.Test.YtjimlkpfmbachaaGreatJ24
import Derived.Test.YtjimlkpfmbachaaGreatJ18
set_option linter.unusedVariables false
set_option linter.unusedSectionVars false
set_option linter.unusedSimpArgs false
namespace Go.Proofs.YtjimlkpfmbachaaGreat
open Go.Am Go.Wc Go.Wb Go.Wd
set_option linter.unusedVariables false
set_option linter.unusedSimpArgs false
theorem fn77 : Fn1 Tryz.prog 77 Tryz.f77.ntmps 7 (Tryz.f77.body.getD .skip) := ⟨Tryz.f77, Tryz.func77, rfl, rfl, rfl, by kernel_rfl⟩
set_option maxRecDepth 100000 in
set_option maxHeartbeats 2000000 in
theorem min1_call {d : Dfa} {x s : Nat} (hd : okD d) (hx : x ∈ clsF d) (hs : s < d.k) : CallF Tryz.prog 77 ([natI x, natI s] ++ [.pc [nats (clsF d)] 0, dpc d, .pc [nats (fl d.n (clsF d) 0)] 0]) (.p (natI (mnext d x s))) := by
  have hcl : (clsF d).length = d.n := (clsF_ok hd).1
  have hkk := kk hd
  have hF : (fl d.n (clsF d) 0).getD x default = idx (clsF d) x := first_get hd hx
  have hF2 : (fl d.n (clsF d) 0).getD x default < d.next.length := by rw [hF]; exact (cl_idx hd hx).1
  have hF3 : s < (d.next.getD ((fl d.n (clsF d) 0).getD x default) default).length := by have := (hd.row hF2).1; omega
  have hF4 : 0 ≤ (d.next.getD ((fl d.n (clsF d) 0).getD x default) default).getD s default ∧ (d.next.getD ((fl d.n (clsF d) 0).getD x default) default).getD s default < ((clsF d).length : Int) := by rw [hcl]; exact hd.cell hF2 (by omega)
  have hx2 := cls_lt hd x hx
  refine callF_of_code fn77 (Nat.le_of_ble_eq_true rfl) fun w0 M0 hM0 => ?_
  refine xC tb hM0 6 [0,1,2,3,4] [] rfl ?_
  refine code_draw mixed (by kernel_rfl) _ rfl ?_
  refine dl_pure rfl rfl rfl (pure_load rfl ag22 rfl rfl) ?_
  refine dl_pure rfl rfl rfl (pure_field rfl fd31_1 rfl) ?_
  refine dl_pure rfl rfl rfl (pure_load rfl ag28 rfl rfl) ?_
  refine dl_pure rfl rfl rfl (pure_load rfl ag22 rfl rfl) ?_
  refine dl_pure rfl rfl rfl (pure_move rfl rfl) ?_
  refine dl_pure rfl rfl rfl (pure_ix rfl Tryz.underlying22 sz3 rfl rfl (by rw [fl_len]; omega) (fun _ => rfl)) ?_
  refine dl_pure rfl rfl rfl (pure_load rfl ag3 rfl rfl) ?_
  refine dpk 22 [(1,_),(8,_),(10,_),(14,_)] [] rfl rfl rfl ?_
  refine dl_pure rfl rfl rfl (pure_ix rfl Tryz.underlying28 sz22 rfl rfl (by exact ⟨Int.natCast_nonneg _, Int.ofNat_lt.2 hF2⟩) (fun _ => rfl)) ?_
  refine dl_pure rfl rfl rfl (pure_load rfl ag22 rfl rfl) ?_
  refine dl_pure rfl rfl rfl (pure_move rfl rfl) ?_
  refine dl_pure rfl rfl rfl (pure_ix rfl Tryz.underlying22 sz3 rfl rfl (by exact ⟨Int.natCast_nonneg _, Int.ofNat_lt.2 hF3⟩) (fun _ => rfl)) ?_
  refine dl_pure rfl rfl rfl (pure_load rfl ag3 rfl rfl) ?_
  refine dl_pure rfl rfl rfl (pure_ix rfl Tryz.underlying22 sz3 rfl rfl (hF4) (fun _ => rfl)) ?_
  refine dl_pure rfl rfl rfl (pure_load rfl ag3 rfl rfl) ?_
  refine dl_pure rfl rfl rfl (pure_assign rfl rfl) ?_
  refine dl_nil ?_
  refine xD tb hM0 2 [] [] rfl ?_
  refine end_ret rfl ?_
  have e : mnext d x s = (clsF d).getD ((d.next.getD ((fl d.n (clsF d) 0).getD x default) default).getD s default).toNat default := by unfold mnext Dfa.stp; rw [← hF]; rfl
  exact (by rw [e]; first | done | rfl)
theorem fn78 : Fn1 Tryz.prog 78 Tryz.f78.ntmps 4 (Tryz.f78.body.getD .skip) := ⟨Tryz.f78, Tryz.func78, rfl, rfl, rfl, by kernel_rfl⟩
set_option maxRecDepth 100000 in
set_option maxHeartbeats 2000000 in
theorem min2_call {d : Dfa} {x : Nat} (hd : okD d) (hx : x ∈ clsF d) : CallF Tryz.prog 78 ([natI x] ++ [dpc d, .pc [nats (fl d.n (clsF d) 0)] 0]) (.p (bool (mfin d x))) := by
  have hcl : (clsF d).length = d.n := (clsF_ok hd).1
  have hF : (fl d.n (clsF d) 0).getD x default = idx (clsF d) x := first_get hd hx
  have hF2 : (fl d.n (clsF d) 0).getD x default < d.fin.length := by rw [hF, hd.1.2.2]; exact (cl_idx hd hx).1
  have hx2 := cls_lt hd x hx
  refine callF_of_code fn78 (Nat.le_of_ble_eq_true rfl) fun w0 M0 hM0 => ?_
  refine xC tb hM0 6 [0,1,2] [] rfl ?_
  refine code_draw mixed (by kernel_rfl) _ rfl ?_
  refine dl_pure rfl rfl rfl (pure_field rfl fd31_2 rfl) ?_
  refine dl_pure rfl rfl rfl (pure_load rfl ag29 rfl rfl) ?_
  refine dl_pure rfl rfl rfl (pure_load rfl ag22 rfl rfl) ?_
  refine dl_pure rfl rfl rfl (pure_move rfl rfl) ?_
  refine dl_pure rfl rfl rfl (pure_ix rfl Tryz.underlying22 sz3 rfl rfl (by rw [fl_len]; omega) (fun _ => rfl)) ?_
  refine dl_pure rfl rfl rfl (pure_load rfl ag3 rfl rfl) ?_
  refine dl_pure rfl rfl rfl (pure_ix rfl Tryz.underlying29 sz4 rfl rfl (by exact ⟨Int.natCast_nonneg _, Int.ofNat_lt.2 hF2⟩) (fun _ => rfl)) ?_
  refine dl_pure rfl rfl rfl (pure_load rfl ag4 rfl rfl) ?_
  refine dl_pure rfl rfl rfl (pure_assign rfl rfl) ?_
  refine dl_nil ?_
  refine xD tb hM0 2 [] [] rfl ?_
  refine end_ret rfl ?_
  have e : mfin d x = d.fin.getD ((fl d.n (clsF d) 0).getD x default) default := by unfold mfin Dfa.fn; rw [← hF]
  exact (by rw [e]; first | done | rfl)
theorem fn30 : FnC Tryz.prog 30 Tryz.f30.ntmps 2 31 3 (Tryz.f30.body.getD .skip) := ⟨Tryz.f30, Tryz.func30, rfl, rfl, rfl, by kernel_rfl, ag31, sz31⟩
set_option maxRecDepth 100000 in
set_option maxHeartbeats 8000000 in
theorem min_call {d : Dfa} : CallF Tryz.prog 30 [dfa d] (.p (dfa (minZ d))) := by
  refine callF_of_codeC fn30 (Nat.le_of_ble_eq_true rfl) fun w0 M0 hM0 => ?_
  refine xC tb hM0 2 [0] [] rfl ?_
  refine oP rfl (pure_box rfl rfl rfl hM0) ?_
  refine xA tb hM0 7 [1,2,8] [2] rfl ?_
  refine oP rfl (pure_call rfl rfl rfl (validD_call) hM0) ?_
  refine xA tb hM0 3 [1,2,10] [2] rfl ?_
  refine spC 10 rfl ?_ ?_ <;> intro h1 <;> try simp only [dq] at h1
  refine xA tb hM0 3 [2] [2] rfl ?_
  refine oP rfl (pure_norm (pure_build rfl pl31 ze31 rfl rfl rfl) rfl) ?_
  refine xA tb hM0 5 [] [] rfl ?_
  refine endC_ret rfl ?_; rotate_left
  have hd := valid_ok (d := d) (by assumption)
  have hn : d.n = d.next.length := rfl
  have hb := hd.1
  have hkk := kk hd
  have hcl : (clsF d).length = d.n := (clsF_ok hd).1
  refine xA tb hM0 6 [1,2,12] [2] rfl ?_
  refine oP rfl (pure_call rfl rfl rfl (classes_call hd) hM0) ?_
  refine xA tb hM0 7 [1,2,3,14] [2,3] rfl ?_
  refine oP rfl (pure_lenm rfl Tryz.underlying22 rfl) ?_
  refine oS rfl (step_make rfl rfl rfl rfl Tryz.underlying22 el3 ze3 rfl rfl rfl (by omega) (by omega) (by omega) hM0) rfl ?_
  refine xA tb hM0 8 [1,2,3,4,17] [2,3,4,16] rfl ?_
  refine oP rfl (pure_lenm rfl Tryz.underlying22 rfl) ?_
  refine oP rfl (pure_subi rfl rfl rfl (by omega)) ?_
  refine xA tb hM0 4 [1,2,3,4,5] [2,3,4,16] rfl ?_
  refine lp (fun zm zs => ∃ q : Nat, zm = q + d.n ∧ (q ≤ (clsF d).length) ∧ zs = ⟨43, [(1, .v .mx (dpc d)), (2, .pbox 2 0), (3, .pbox 3 0), (4, .pbox 4 0), (5, .v .pl (int ((q : Int) - 1)))], [(2, .box 31 [.v .pl (.sc (.int .i64 0)), .v .pl (.sc (.slice none 0 0)), .v .pl (.sc (.slice none 0 0))]), (3, .box 22 [.v .pl (nats (clsF d))]), (4, .box 22 [.own 16]), (16, .arr 3 ((fl d.n ((clsF d).drop q) q).map natI))]⟩) ?_ ?_
  refine ⟨_, (clsF d).length, rfl, Nat.le_refl _, ?_⟩
  rw [fl_start, ← rep_map, ← hcl]; rfl
  rintro zm zs ⟨q, rfl, hL1_0, rfl⟩
  refine xA tb hM0 7 [1,2,3,4,5,21] [2,3,4,16] rfl ?_
  refine spC 21 rfl ?_ ?_ <;> intro h2 <;> try simp only [dq] at h2
  obtain ⟨q2, rfl⟩ : ∃ q2, q = q2 + 1 := ⟨q - 1, by omega⟩
  rw [show ((q2 + 1 : Nat) : Int) - 1 = (q2 : Int) from by omega]
  refine xA tb hM0 5 [1,2,3,4,5] [2,3,4,16] rfl ?_
  refine code_draw mixed (by kernel_rfl) _ rfl ?_
  refine dl_pure rfl rfl rfl (pure_load_box rfl ag22 rfl rfl rfl) ?_
  refine dl_pure rfl rfl rfl (pure_load_box rfl ag22 rfl rfl rfl) ?_
  refine dl_pure rfl rfl rfl (pure_move rfl rfl) ?_
  refine dl_pure rfl rfl rfl (pure_ix rfl Tryz.underlying22 sz3 rfl rfl (by omega) (fun _ => rfl)) ?_
  refine dl_pure rfl rfl rfl (pure_load rfl ag3 rfl rfl) ?_
  refine dl_pure rfl rfl rfl (pure_move rfl rfl) ?_
  refine dl_pure rfl rfl rfl (pure_index_own rfl Tryz.underlying22 sz3 rfl rfl rfl (by have h9 := cls_lt hd _ (el_mem (l := clsF d) (i := q2) (by omega)); exact ⟨Int.natCast_nonneg _, by rw [List.length_map, fl_len]; exact Int.ofNat_lt.2 h9⟩)) ?_
  refine dl_tails (by kernel_rfl) ?_
  refine tl_step rfl (step_store_pel rfl rfl rfl sz3 rfl rfl (mget (by rw [fl_len]; exact cls_lt hd _ (el_mem (l := clsF d) (i := q2) (by omega)))) rfl rfl (.inl rfl) rfl (Nat.le_of_ble_eq_true rfl) hM0) ?_
  refine tl_nil ?_
  refine xD tb hM0 4 [1,2,3,4,22] [2,3,4,16] rfl ?_
  refine oP rfl (pure_subi rfl rfl rfl (by omega)) ?_
  refine xA tb hM0 2 [1,2,3,4,5] [2,3,4,16] rfl ?_
  refine nx ?_
  refine ⟨_, ⟨q2, rfl, by omega, ?_⟩, by omega⟩
  rw [← fl_stepI (n := d.n) (cl := clsF d) (q := q2) (by omega)]; rfl
  refine xA tb hM0 7 [1,2,3,4] [2,3,4,16] rfl ?_
  refine code_frz 43 [(1, _), (2, _), (3, _), (4, _)] [(2, _)] hM0 rfl ⟨.inl rfl, .inl rfl, .inr ⟨_, _, rfl, rfl, rfl⟩, .inr ⟨_, _, rfl, rfl, rfl⟩, trivial⟩ ⟨rfl, trivial⟩ ?_
  obtain rfl : q = 0 := by omega
  rw [List.drop_zero]
  refine code_drawE (n := 43) (om := [(2, .box 31 [.v .pl (.sc (.int .i64 0)), .v .pl (.sc (.slice none 0 0)), .v .pl (.sc (.slice none 0 0))]), (6, .box 31 [.v .pl (.sc (.int .i64 0)), .v .pl (.sc (.slice none 0 0)), .v .pl (.sc (.slice none 0 0))])]) (o2 := [(2, .box 31 [.v .pl (.sc (.int .i64 0)), .v .pl (.sc (.slice none 0 0)), .v .pl (.sc (.slice none 0 0))]), (6, .box 31 [.v .pl (int (minP d).size), .v .pl (rowsA (minP d).next), .v .pl (boolsA (minP d).fin)])]) 11 12 14 [(32, .v .pl (nats (clsF d))), (33, .v .pl (.pc [natI ((clsF d).getD 0 default)] 0)), (34, .v .pl (natI (mstart d))), (35, .v .mx (.pc (dcells d) 0)), (36, .v .mx (int d.size)), (37, .v .mx (.clo 77 [.pc [nats (clsF d)] 0, dpc d, .pc [nats (fl d.n (clsF d) 0)] 0])), (38, .v .mx (.clo 78 [dpc d, .pc [nats (fl d.n (clsF d) 0)] 0])), (39, .v .pl (.tup [dfa (minP d), bool true])), (31, .v .pl (.tup [dfa (minP d), bool true])), (40, .v .pl (dfa (minP d))), (41, .v .pl (bool true)), (6, .pbox 6 0), (7, .v .pl (bool true)), (1, .v .mx (dpc d)), (2, .pbox 2 0), (3, .v .pl (.pc [nats (clsF d)] 0)), (4, .v .pl (.pc [nats (fl d.n (clsF d) 0)] 0))] mixed (by kernel_rfl) (by kernel_rfl) (by kernel_rfl) (by kernel_rfl) rfl (by kernel_rfl) rfl (fun t z h => h) rfl ?_ ?_ ?_ ?_ ?_ ?_ ?_
  · intro zi zt hzi hzd
    rcases (by omega : zi = 0 ∨ zi = 1 ∨ zi = 2 ∨ zi = 3 ∨ zi = 4 ∨ zi = 5 ∨ zi = 6 ∨ zi = 7 ∨ zi = 8 ∨ zi = 9 ∨ zi = 10 ∨ zi = 11 ∨ zi = 12 ∨ zi = 13) with rfl | rfl | rfl | rfl | rfl | rfl | rfl | rfl | rfl | rfl | rfl | rfl | rfl | rfl
    · injection (show some _ = some zt from hzd) with hzd; subst hzd; exact ⟨_, rfl⟩
    · injection (show some _ = some zt from hzd) with hzd; subst hzd; exact ⟨_, rfl⟩
    · injection (show some _ = some zt from hzd) with hzd; subst hzd; exact ⟨_, rfl⟩
    · injection (show some _ = some zt from hzd) with hzd; subst hzd; exact ⟨_, rfl⟩
    · injection (show some _ = some zt from hzd) with hzd; subst hzd; exact ⟨_, rfl⟩
    · injection (show some _ = some zt from hzd) with hzd; subst hzd; exact ⟨_, rfl⟩
    · injection (show some _ = some zt from hzd) with hzd; subst hzd; exact ⟨_, rfl⟩
    · injection (show some _ = some zt from hzd) with hzd; subst hzd; exact ⟨_, rfl⟩
    · injection (show some _ = some zt from hzd) with hzd; subst hzd; exact ⟨_, rfl⟩
    · injection (show some _ = some zt from hzd) with hzd; subst hzd; exact ⟨_, rfl⟩
    · injection (show some _ = some zt from hzd) with hzd; subst hzd; exact ⟨_, rfl⟩
    · injection (show some _ = some zt from hzd) with hzd; subst hzd; exact ⟨_, rfl⟩
    · cases (show (none : Option Nat) = some zt from hzd)
    · injection (show some _ = some zt from hzd) with hzd; subst hzd; exact ⟨_, rfl⟩
  · intro zi zo zt zd hzi hzia hzib hzo hzd hzG hzn
    rcases (by omega : zi = 0 ∨ zi = 1 ∨ zi = 2 ∨ zi = 3 ∨ zi = 4 ∨ zi = 5 ∨ zi = 6 ∨ zi = 7 ∨ zi = 8 ∨ zi = 9 ∨ zi = 10 ∨ zi = 13) with rfl | rfl | rfl | rfl | rfl | rfl | rfl | rfl | rfl | rfl | rfl | rfl
    · injection (show some _ = some zo from hzo) with hzo; subst hzo; injection (show some _ = some zt from hzd) with hzd; subst hzd; injection (show some _ = some zd from hzG) with hzG; subst hzG
      exact (pure_load rfl ag22 rfl rfl)
    · injection (show some _ = some zo from hzo) with hzo; subst hzo; injection (show some _ = some zt from hzd) with hzd; subst hzd; injection (show some _ = some zd from hzG) with hzG; subst hzG
      exact (pure_ix (f := natI) (l := clsF d) rfl Tryz.underlying22 sz3 rfl rfl (by omega) (fun _ => rfl))
    · injection (show some _ = some zo from hzo) with hzo; subst hzo; injection (show some _ = some zt from hzd) with hzd; subst hzd; injection (show some _ = some zd from hzG) with hzG; subst hzG
      exact (pure_load rfl ag3 rfl rfl)
    · injection (show some _ = some zo from hzo) with hzo; subst hzo; injection (show some _ = some zt from hzd) with hzd; subst hzd; injection (show some _ = some zd from hzG) with hzG; subst hzG
      exact (pure_field rfl fd31_0 rfl)
    · injection (show some _ = some zo from hzo) with hzo; subst hzo; injection (show some _ = some zt from hzd) with hzd; subst hzd; injection (show some _ = some zd from hzG) with hzG; subst hzG
      exact (pure_load rfl ag3 rfl rfl)
    · injection (show some _ = some zo from hzo) with hzo; subst hzo; injection (show some _ = some zt from hzd) with hzd; subst hzd; injection (show some _ = some zd from hzG) with hzG; subst hzG
      exact (pure_func rfl rfl)
    · injection (show some _ = some zo from hzo) with hzo; subst hzo; injection (show some _ = some zt from hzd) with hzd; subst hzd; injection (show some _ = some zd from hzG) with hzG; subst hzG
      exact (pure_func rfl rfl)
    · injection (show some _ = some zo from hzo) with hzo; subst hzo; injection (show some _ = some zt from hzd) with hzd; subst hzd; injection (show some _ = some zd from hzG) with hzG; subst hzG
      exact (pure_callD rfl rfl rfl (exploreI_call (U := clsF d) (next := mnext d) (final := mfin d) (size := d.k) (N := d.n) (start := mstart d) ⟨by omega, by omega⟩ (mnext_mem hd) (cl_mem hd (q := 0) (by omega)) (by omega) (by omega) hkk.1 (fun x hx s hs => min1_call hd hx hs) (fun x hx => min2_call hd hx)) hM0)
    · injection (show some _ = some zo from hzo) with hzo; subst hzo; injection (show some _ = some zt from hzd) with hzd; subst hzd; injection (show some _ = some zd from hzG) with hzG; subst hzG
      exact (pure_move rfl rfl)
    · injection (show some _ = some zo from hzo) with hzo; subst hzo; injection (show some _ = some zt from hzd) with hzd; subst hzd; injection (show some _ = some zd from hzG) with hzG; subst hzG
      exact (pure_extract rfl rfl rfl)
    · injection (show some _ = some zo from hzo) with hzo; subst hzo; injection (show some _ = some zt from hzd) with hzd; subst hzd; injection (show some _ = some zd from hzG) with hzG; subst hzG
      exact (pure_extract rfl rfl rfl)
    · first | exact absurd hzn (by decide)
  · intro zi zo zt zd hzi hzia hzib hzo hzd hzG hzn hzn2
    rcases (by omega : zi = 0 ∨ zi = 1 ∨ zi = 2 ∨ zi = 3 ∨ zi = 4 ∨ zi = 5 ∨ zi = 6 ∨ zi = 7 ∨ zi = 8 ∨ zi = 9 ∨ zi = 10 ∨ zi = 13) with rfl | rfl | rfl | rfl | rfl | rfl | rfl | rfl | rfl | rfl | rfl | rfl
    · injection (show some _ = some zo from hzo) with hzo; subst hzo; injection (show some _ = some zt from hzd) with hzd; subst hzd; injection (show some _ = some zd from hzG) with hzG; subst hzG
      exact (pure_load rfl ag22 rfl rfl)
    · injection (show some _ = some zo from hzo) with hzo; subst hzo; injection (show some _ = some zt from hzd) with hzd; subst hzd; injection (show some _ = some zd from hzG) with hzG; subst hzG
      exact (pure_ix (f := natI) (l := clsF d) rfl Tryz.underlying22 sz3 rfl rfl (by omega) (fun _ => rfl))
    · injection (show some _ = some zo from hzo) with hzo; subst hzo; injection (show some _ = some zt from hzd) with hzd; subst hzd; injection (show some _ = some zd from hzG) with hzG; subst hzG
      exact (pure_load rfl ag3 rfl rfl)
    · injection (show some _ = some zo from hzo) with hzo; subst hzo; injection (show some _ = some zt from hzd) with hzd; subst hzd; injection (show some _ = some zd from hzG) with hzG; subst hzG
      exact (pure_field rfl fd31_0 rfl)
    · injection (show some _ = some zo from hzo) with hzo; subst hzo; injection (show some _ = some zt from hzd) with hzd; subst hzd; injection (show some _ = some zd from hzG) with hzG; subst hzG
      exact (pure_load rfl ag3 rfl rfl)
    · injection (show some _ = some zo from hzo) with hzo; subst hzo; injection (show some _ = some zt from hzd) with hzd; subst hzd; injection (show some _ = some zd from hzG) with hzG; subst hzG
      exact (pure_func rfl rfl)
    · injection (show some _ = some zo from hzo) with hzo; subst hzo; injection (show some _ = some zt from hzd) with hzd; subst hzd; injection (show some _ = some zd from hzG) with hzG; subst hzG
      exact (pure_func rfl rfl)
    · injection (show some _ = some zo from hzo) with hzo; subst hzo; injection (show some _ = some zt from hzd) with hzd; subst hzd; injection (show some _ = some zd from hzG) with hzG; subst hzG
      exact (pure_callD rfl rfl rfl (exploreI_call (U := clsF d) (next := mnext d) (final := mfin d) (size := d.k) (N := d.n) (start := mstart d) ⟨by omega, by omega⟩ (mnext_mem hd) (cl_mem hd (q := 0) (by omega)) (by omega) (by omega) hkk.1 (fun x hx s hs => min1_call hd hx hs) (fun x hx => min2_call hd hx)) hM0)
    · injection (show some _ = some zo from hzo) with hzo; subst hzo; injection (show some _ = some zt from hzd) with hzd; subst hzd; injection (show some _ = some zd from hzG) with hzG; subst hzG
      exact (pure_move rfl rfl)
    · injection (show some _ = some zo from hzo) with hzo; subst hzo; injection (show some _ = some zt from hzd) with hzd; subst hzd; injection (show some _ = some zd from hzG) with hzG; subst hzG
      exact (pure_extract rfl rfl rfl)
    · injection (show some _ = some zo from hzo) with hzo; subst hzo; injection (show some _ = some zt from hzd) with hzd; subst hzd; injection (show some _ = some zd from hzG) with hzG; subst hzG
      exact (pure_extract rfl rfl rfl)
    · first | exact absurd hzn (by decide) | exact absurd hzn2 (by decide)
  · intro zi zo zt zd hzi hzia hzib hzo hzd hzG hzn
    rcases (by omega : zi = 0 ∨ zi = 1 ∨ zi = 2 ∨ zi = 3 ∨ zi = 4 ∨ zi = 5 ∨ zi = 6 ∨ zi = 7 ∨ zi = 8 ∨ zi = 9 ∨ zi = 10 ∨ zi = 13) with rfl | rfl | rfl | rfl | rfl | rfl | rfl | rfl | rfl | rfl | rfl | rfl
    · first | exact absurd hzn (by decide)
    · first | exact absurd hzn (by decide)
    · first | exact absurd hzn (by decide)
    · first | exact absurd hzn (by decide)
    · first | exact absurd hzn (by decide)
    · first | exact absurd hzn (by decide)
    · first | exact absurd hzn (by decide)
    · first | exact absurd hzn (by decide)
    · first | exact absurd hzn (by decide)
    · first | exact absurd hzn (by decide)
    · injection (show some _ = some zo from hzo) with hzo; subst hzo; injection (show some _ = some zt from hzd) with hzd; subst hzd; injection (show some _ = some zd from hzG) with hzG; subst hzG
      exact (pure_extract rfl rfl rfl)
    · injection (show some _ = some zo from hzo) with hzo; subst hzo; injection (show some _ = some zt from hzd) with hzd; subst hzd; injection (show some _ = some zd from hzG) with hzG; subst hzG
      exact (pure_assign rfl rfl)
  · intro zo X hzo hXn hXG hXr
    injection (show some _ = some zo from hzo) with hzo'
    exact step_allocD (t := 6) (by rw [← hzo']; rfl) (by rw [← hzo']; rfl) rfl rfl hXn ze31 rfl rfl (fun t' z h hne => all_stays (by rfl) (hXG t' z h) hne) rfl hM0
  · intro zo X hzo hXn hXG hXr
    have hXu : 6 ∈ looks _ zo → X.lookup 6 = some (.pbox 6 0) := fun h => (hXr 6 h).trans rfl
    have hXv : 40 ∈ looks _ zo → X.lookup 40 = some (.v .pl (dfa (minP d))) := fun h => (hXr 40 h).trans rfl
    injection (show some _ = some zo from hzo) with hzo'
    exact step_storeE (by rw [← hzo']; rfl) (step_storeD (u := 6) (v := 40) (id := 6) (by rw [← hzo']; rfl) (by rw [← hzo']; rfl) hXn sz31 (hXu (by rw [← hzo']; decide)) rfl (hXv (by rw [← hzo']; decide)) rfl (by decide) rfl rfl (fun t' z h => all_stays0 (by rfl) (hXG t' z h)) rfl hM0)
  refine endL_of (n := 0) (by kernel_rfl) ?_
  refine ex_end (by kernel_rfl) ?_
  refine xD tb hM0 8 [] [] rfl ?_
  refine endC_ret rfl ?_; rotate_left
  all_goals
    first
      | (rw [minZ_f (d := d) (by assumption)]; first | done | rfl)
      | (rw [minZ_t (d := d) (by assumption)]; first | done | rfl)
end Go.Proofs.YtjimlkpfmbachaaGreat

namespace Go.Proofs.YtjimlkpfmbachaaGreat
open Go.Am Go.Wc Go.Wb Go.Wd
set_option linter.unusedVariables false
set_option linter.unusedSimpArgs false
theorem fn100 : Fn1 Tryz.prog 100 Tryz.f100.ntmps 5 (Tryz.f100.body.getD .skip) := ⟨Tryz.f100, Tryz.func100, rfl, rfl, rfl, by kernel_rfl⟩
set_option maxRecDepth 100000 in
set_option maxHeartbeats 2000000 in
theorem join1_call {a b : Dfa} {x : Nat × Nat} {f : Bool → Bool → Bool} {q : FuncId} {cq : List AV} (hq : ∀ x y, CallF Tryz.prog q ([bool x, bool y] ++ cq) (.p (bool (f x y)))) (hx : x.1 < a.fin.length ∧ x.2 < b.fin.length) : CallF Tryz.prog 100 ([pairI x] ++ [.pc [.clo q cq] 0, dpc a, dpc b]) (.p (bool (pfin f a b x))) := by
  refine callF_of_code fn100 (Nat.le_of_ble_eq_true rfl) fun w0 M0 hM0 => ?_
  refine xC tb hM0 2 [0,1,2,3] [] rfl ?_
  refine oP rfl (pure_box rfl rfl rfl hM0) ?_
  refine xA tb hM0 4 [1,2,3,4] [] rfl ?_
  refine code_draw mixed (by kernel_rfl) _ rfl ?_
  refine dl_pure rfl rfl rfl (pure_load rfl ag81 rfl rfl) ?_
  refine dl_pure rfl rfl rfl (pure_field rfl fd31_2 rfl) ?_
  refine dl_pure rfl rfl rfl (pure_load rfl ag29 rfl rfl) ?_
  refine dl_pure rfl rfl rfl (pure_index_pc rfl Tryz.underlying74 sz3 rfl rfl (by decide)) ?_
  refine dl_pure rfl rfl rfl (pure_load rfl ag3 rfl rfl) ?_
  refine dl_pure rfl rfl rfl (pure_ix rfl Tryz.underlying29 sz4 rfl rfl (by exact ⟨Int.natCast_nonneg _, Int.ofNat_lt.2 hx.1⟩) (fun _ => rfl)) ?_
  refine dl_pure rfl rfl rfl (pure_load rfl ag4 rfl rfl) ?_
  refine dpk 20 [(3,_),(4,_),(6,_),(12,_)] [] rfl rfl rfl ?_
  refine dl_pure rfl rfl rfl (pure_field rfl fd31_2 rfl) ?_
  refine dl_pure rfl rfl rfl (pure_load rfl ag29 rfl rfl) ?_
  refine dl_pure rfl rfl rfl (pure_index_pc rfl Tryz.underlying74 sz3 rfl rfl (by decide)) ?_
  refine dl_pure rfl rfl rfl (pure_load rfl ag3 rfl rfl) ?_
  refine dl_pure rfl rfl rfl (pure_ix rfl Tryz.underlying29 sz4 rfl rfl (by exact ⟨Int.natCast_nonneg _, Int.ofNat_lt.2 hx.2⟩) (fun _ => rfl)) ?_
  refine dl_pure rfl rfl rfl (pure_load rfl ag4 rfl rfl) ?_
  refine dl_pure rfl rfl rfl (pure_call rfl rfl rfl (hq _ _) hM0) ?_
  refine dl_pure rfl rfl rfl (pure_assign rfl rfl) ?_
  refine dl_nil ?_
  refine xD tb hM0 2 [] [] rfl ?_
  refine end_ret rfl ?_
  rfl
theorem fn63 : FnC2 Tryz.prog 63 Tryz.f63.ntmps 6 31 3 7 (Tryz.f63.body.getD .skip) := ⟨Tryz.f63, Tryz.func63, rfl, rfl, rfl, by kernel_rfl, ag31, sz31⟩
set_option maxRecDepth 100000 in
set_option maxHeartbeats 4000000 in
theorem join_call {a b : Dfa} {f : Bool → Bool → Bool} {q : FuncId} {cq : List AV} (hq : ∀ x y, CallF Tryz.prog q ([bool x, bool y] ++ cq) (.p (bool (f x y)))) (hn : a.n * b.n ≤ 2048) : CallF Tryz.prog 63 [dfa a, dfa b, .clo q cq] (.p (.tup [dfa (joinZ f a b), int (joinE a b)])) := by
  refine callF_of_codeC2 fn63 (Nat.le_of_ble_eq_true rfl) fun w0 M0 hM0 => ?_
  refine xC tb hM0 2 [0,1,2] [] rfl ?_
  refine oP rfl (pure_box rfl rfl rfl hM0) ?_
  refine oP rfl (pure_box rfl rfl rfl hM0) ?_
  refine xA tb hM0 0 [2,3,4] [] rfl ?_
  refine oP rfl (pure_box rfl rfl rfl hM0) ?_
  refine xA tb hM0 8 [3,4,5,6,10] [6] rfl ?_
  refine oP rfl (pure_call rfl rfl rfl (validD_call (d := a)) hM0) ?_
  refine xA tb hM0 2 [3,4,5,6,13] [6] rfl ?_
  refine spO 13 rfl ?_ ?_ <;> intro h1' <;> try simp only [dq] at h1'
  refine xA tb hM0 23 [] [] rfl ?_
  refine endC2_ret rfl rfl ?_; rotate_left
  refine xA tb hM0 1 [3,4,5,6,13,14] [6] rfl ?_
  refine oP rfl (pure_call rfl rfl rfl (validD_call (d := b)) hM0) ?_
  refine xA tb hM0 3 [3,4,5,6,18] [6] rfl ?_
  refine spO 18 rfl ?_ ?_ <;> intro h2' <;> try simp only [dq] at h2'
  refine xA tb hM0 18 [] [] rfl ?_
  refine endC2_ret rfl rfl ?_; rotate_left
  refine xA tb hM0 8 [3,4,5,6,24] [6] rfl ?_
  refine spC 24 rfl ?_ ?_ <;> intro h3 <;> try simp only [dq] at h3
  refine xA tb hM0 10 [] [] rfl ?_
  refine endC2_ret rfl rfl ?_; rotate_left
  have hda := valid_ok (d := a) (by assumption)
  have hdb := valid_ok (d := b) (by assumption)
  have hba := hda.1
  have hbb := hdb.1
  have hka := kk hda
  have hkb := kk hdb
  have hna : a.n = a.next.length := rfl
  have hnb : b.n = b.next.length := rfl
  have hse : a.size = b.size := by omega
  have hkk : a.k = b.k := by omega
  refine xA tb hM0 4 [3,4,5,6] [6] rfl ?_
  refine code_drawE (n := 42) (om := [(6, .box 31 [.v .pl (.sc (.int .i64 0)), .v .pl (.sc (.slice none 0 0)), .v .pl (.sc (.slice none 0 0))]), (8, .box 31 [.v .pl (.sc (.int .i64 0)), .v .pl (.sc (.slice none 0 0)), .v .pl (.sc (.slice none 0 0))])]) (o2 := [(6, .box 31 [.v .pl (.sc (.int .i64 0)), .v .pl (.sc (.slice none 0 0)), .v .pl (.sc (.slice none 0 0))]), (8, .box 31 [.v .pl (int ((prodP f a b)).size), .v .pl (rowsA ((prodP f a b)).next), .v .pl (boolsA ((prodP f a b)).fin)])]) 11 12 14 [(27, .v .pl (pairI (0, 0))), (28, .v .mx (.pc (dcells a) 0)), (29, .v .mx (int a.size)), (30, .v .mx (dfa a)), (31, .v .mx (dfa b)), (32, .v .mx (.clo 98 [dpc a, dpc b])), (33, .v .mx (.clo 100 [.pc [.clo q cq] 0, dpc a, dpc b])), (34, .v .pl (.tup [dfa (prodP f a b), bool true])), (26, .v .pl (.tup [dfa (prodP f a b), bool true])), (35, .v .pl (dfa (prodP f a b))), (36, .v .pl (bool true)), (8, .pbox 8 0), (9, .v .pl (bool true)), (3, .v .mx (dpc a)), (4, .v .mx (dpc b)), (5, .v .mx (.pc [.clo q cq] 0)), (6, .pbox 6 0)] mixed (by kernel_rfl) (by kernel_rfl) (by kernel_rfl) (by kernel_rfl) rfl (by kernel_rfl) rfl (fun t z h => h) rfl ?_ ?_ ?_ ?_ ?_ ?_ ?_
  · intro zi zt hzi hzd
    rcases (by omega : zi = 0 ∨ zi = 1 ∨ zi = 2 ∨ zi = 3 ∨ zi = 4 ∨ zi = 5 ∨ zi = 6 ∨ zi = 7 ∨ zi = 8 ∨ zi = 9 ∨ zi = 10 ∨ zi = 11 ∨ zi = 12 ∨ zi = 13) with rfl | rfl | rfl | rfl | rfl | rfl | rfl | rfl | rfl | rfl | rfl | rfl | rfl | rfl
    · injection (show some _ = some zt from hzd) with hzd; subst hzd; exact ⟨_, rfl⟩
    · injection (show some _ = some zt from hzd) with hzd; subst hzd; exact ⟨_, rfl⟩
    · injection (show some _ = some zt from hzd) with hzd; subst hzd; exact ⟨_, rfl⟩
    · injection (show some _ = some zt from hzd) with hzd; subst hzd; exact ⟨_, rfl⟩
    · injection (show some _ = some zt from hzd) with hzd; subst hzd; exact ⟨_, rfl⟩
    · injection (show some _ = some zt from hzd) with hzd; subst hzd; exact ⟨_, rfl⟩
    · injection (show some _ = some zt from hzd) with hzd; subst hzd; exact ⟨_, rfl⟩
    · injection (show some _ = some zt from hzd) with hzd; subst hzd; exact ⟨_, rfl⟩
    · injection (show some _ = some zt from hzd) with hzd; subst hzd; exact ⟨_, rfl⟩
    · injection (show some _ = some zt from hzd) with hzd; subst hzd; exact ⟨_, rfl⟩
    · injection (show some _ = some zt from hzd) with hzd; subst hzd; exact ⟨_, rfl⟩
    · injection (show some _ = some zt from hzd) with hzd; subst hzd; exact ⟨_, rfl⟩
    · cases (show (none : Option Nat) = some zt from hzd)
    · injection (show some _ = some zt from hzd) with hzd; subst hzd; exact ⟨_, rfl⟩
  · intro zi zo zt zd hzi hzia hzib hzo hzd hzG hzn
    rcases (by omega : zi = 0 ∨ zi = 1 ∨ zi = 2 ∨ zi = 3 ∨ zi = 4 ∨ zi = 5 ∨ zi = 6 ∨ zi = 7 ∨ zi = 8 ∨ zi = 9 ∨ zi = 10 ∨ zi = 13) with rfl | rfl | rfl | rfl | rfl | rfl | rfl | rfl | rfl | rfl | rfl | rfl
    · injection (show some _ = some zo from hzo) with hzo; subst hzo; injection (show some _ = some zt from hzd) with hzd; subst hzd; injection (show some _ = some zd from hzG) with hzG; subst hzG
      exact (pure_build0 rfl Tryz.underlying74 sz3 ze74 rfl rfl)
    · injection (show some _ = some zo from hzo) with hzo; subst hzo; injection (show some _ = some zt from hzd) with hzd; subst hzd; injection (show some _ = some zd from hzG) with hzG; subst hzG
      exact (pure_field rfl fd31_0 rfl)
    · injection (show some _ = some zo from hzo) with hzo; subst hzo; injection (show some _ = some zt from hzd) with hzd; subst hzd; injection (show some _ = some zd from hzG) with hzG; subst hzG
      exact (pure_load rfl ag3 rfl rfl)
    · injection (show some _ = some zo from hzo) with hzo; subst hzo; injection (show some _ = some zt from hzd) with hzd; subst hzd; injection (show some _ = some zd from hzG) with hzG; subst hzG
      exact (pure_norm (pure_load_agg rfl ag31 sz31 rfl (Nat.le_of_ble_eq_true rfl)) rfl)
    · injection (show some _ = some zo from hzo) with hzo; subst hzo; injection (show some _ = some zt from hzd) with hzd; subst hzd; injection (show some _ = some zd from hzG) with hzG; subst hzG
      exact (pure_norm (pure_load_agg rfl ag31 sz31 rfl (Nat.le_of_ble_eq_true rfl)) rfl)
    · injection (show some _ = some zo from hzo) with hzo; subst hzo; injection (show some _ = some zt from hzd) with hzd; subst hzd; injection (show some _ = some zd from hzG) with hzG; subst hzG
      exact (pure_callN rfl rfl rfl rfl (steps_call) hM0)
    · injection (show some _ = some zo from hzo) with hzo; subst hzo; injection (show some _ = some zt from hzd) with hzd; subst hzd; injection (show some _ = some zd from hzG) with hzG; subst hzG
      exact (pure_func rfl rfl)
    · injection (show some _ = some zo from hzo) with hzo; subst hzo; injection (show some _ = some zt from hzd) with hzd; subst hzd; injection (show some _ = some zd from hzG) with hzG; subst hzG
      exact (pure_callD rfl rfl rfl (exploreP_call (U := pairs a.n b.n) (next := pnext a b) (final := pfin f a b) (size := a.k) (N := a.n * b.n) (start := (0, 0)) ⟨by omega, by omega⟩ (pnext_mem hda hdb hkk) (pairs_mem.2 ⟨by omega, by omega⟩) (by rw [pairs_len]; exact Nat.le_refl _) (by rw [pairs_len]; exact hn) hka.1 (fun x hx => by have h := pairs_mem.1 (show (x.1, x.2) ∈ _ from hx); exact ⟨by have := h.1; omega, by have := h.2; omega⟩) (fun x hx s hs => by have h := pairs_mem.1 (show (x.1, x.2) ∈ _ from hx); exact steps1_call hda hdb hse h hs) (fun x hx => by have h := pairs_mem.1 (show (x.1, x.2) ∈ _ from hx); exact join1_call hq ⟨by have := h.1; omega, by have := h.2; omega⟩)) hM0)
    · injection (show some _ = some zo from hzo) with hzo; subst hzo; injection (show some _ = some zt from hzd) with hzd; subst hzd; injection (show some _ = some zd from hzG) with hzG; subst hzG
      exact (pure_move rfl rfl)
    · injection (show some _ = some zo from hzo) with hzo; subst hzo; injection (show some _ = some zt from hzd) with hzd; subst hzd; injection (show some _ = some zd from hzG) with hzG; subst hzG
      exact (pure_extract rfl rfl rfl)
    · injection (show some _ = some zo from hzo) with hzo; subst hzo; injection (show some _ = some zt from hzd) with hzd; subst hzd; injection (show some _ = some zd from hzG) with hzG; subst hzG
      exact (pure_extract rfl rfl rfl)
    · first | exact absurd hzn (by decide)
  · intro zi zo zt zd hzi hzia hzib hzo hzd hzG hzn hzn2
    rcases (by omega : zi = 0 ∨ zi = 1 ∨ zi = 2 ∨ zi = 3 ∨ zi = 4 ∨ zi = 5 ∨ zi = 6 ∨ zi = 7 ∨ zi = 8 ∨ zi = 9 ∨ zi = 10 ∨ zi = 13) with rfl | rfl | rfl | rfl | rfl | rfl | rfl | rfl | rfl | rfl | rfl | rfl
    · injection (show some _ = some zo from hzo) with hzo; subst hzo; injection (show some _ = some zt from hzd) with hzd; subst hzd; injection (show some _ = some zd from hzG) with hzG; subst hzG
      exact (pure_build0 rfl Tryz.underlying74 sz3 ze74 rfl rfl)
    · injection (show some _ = some zo from hzo) with hzo; subst hzo; injection (show some _ = some zt from hzd) with hzd; subst hzd; injection (show some _ = some zd from hzG) with hzG; subst hzG
      exact (pure_field rfl fd31_0 rfl)
    · injection (show some _ = some zo from hzo) with hzo; subst hzo; injection (show some _ = some zt from hzd) with hzd; subst hzd; injection (show some _ = some zd from hzG) with hzG; subst hzG
      exact (pure_load rfl ag3 rfl rfl)
    · injection (show some _ = some zo from hzo) with hzo; subst hzo; injection (show some _ = some zt from hzd) with hzd; subst hzd; injection (show some _ = some zd from hzG) with hzG; subst hzG
      exact (pure_norm (pure_load_agg rfl ag31 sz31 rfl (Nat.le_of_ble_eq_true rfl)) rfl)
    · injection (show some _ = some zo from hzo) with hzo; subst hzo; injection (show some _ = some zt from hzd) with hzd; subst hzd; injection (show some _ = some zd from hzG) with hzG; subst hzG
      exact (pure_norm (pure_load_agg rfl ag31 sz31 rfl (Nat.le_of_ble_eq_true rfl)) rfl)
    · injection (show some _ = some zo from hzo) with hzo; subst hzo; injection (show some _ = some zt from hzd) with hzd; subst hzd; injection (show some _ = some zd from hzG) with hzG; subst hzG
      exact (pure_callN rfl rfl rfl rfl (steps_call) hM0)
    · injection (show some _ = some zo from hzo) with hzo; subst hzo; injection (show some _ = some zt from hzd) with hzd; subst hzd; injection (show some _ = some zd from hzG) with hzG; subst hzG
      exact (pure_func rfl rfl)
    · injection (show some _ = some zo from hzo) with hzo; subst hzo; injection (show some _ = some zt from hzd) with hzd; subst hzd; injection (show some _ = some zd from hzG) with hzG; subst hzG
      exact (pure_callD rfl rfl rfl (exploreP_call (U := pairs a.n b.n) (next := pnext a b) (final := pfin f a b) (size := a.k) (N := a.n * b.n) (start := (0, 0)) ⟨by omega, by omega⟩ (pnext_mem hda hdb hkk) (pairs_mem.2 ⟨by omega, by omega⟩) (by rw [pairs_len]; exact Nat.le_refl _) (by rw [pairs_len]; exact hn) hka.1 (fun x hx => by have h := pairs_mem.1 (show (x.1, x.2) ∈ _ from hx); exact ⟨by have := h.1; omega, by have := h.2; omega⟩) (fun x hx s hs => by have h := pairs_mem.1 (show (x.1, x.2) ∈ _ from hx); exact steps1_call hda hdb hse h hs) (fun x hx => by have h := pairs_mem.1 (show (x.1, x.2) ∈ _ from hx); exact join1_call hq ⟨by have := h.1; omega, by have := h.2; omega⟩)) hM0)
    · injection (show some _ = some zo from hzo) with hzo; subst hzo; injection (show some _ = some zt from hzd) with hzd; subst hzd; injection (show some _ = some zd from hzG) with hzG; subst hzG
      exact (pure_move rfl rfl)
    · injection (show some _ = some zo from hzo) with hzo; subst hzo; injection (show some _ = some zt from hzd) with hzd; subst hzd; injection (show some _ = some zd from hzG) with hzG; subst hzG
      exact (pure_extract rfl rfl rfl)
    · injection (show some _ = some zo from hzo) with hzo; subst hzo; injection (show some _ = some zt from hzd) with hzd; subst hzd; injection (show some _ = some zd from hzG) with hzG; subst hzG
      exact (pure_extract rfl rfl rfl)
    · first | exact absurd hzn (by decide) | exact absurd hzn2 (by decide)
  · intro zi zo zt zd hzi hzia hzib hzo hzd hzG hzn
    rcases (by omega : zi = 0 ∨ zi = 1 ∨ zi = 2 ∨ zi = 3 ∨ zi = 4 ∨ zi = 5 ∨ zi = 6 ∨ zi = 7 ∨ zi = 8 ∨ zi = 9 ∨ zi = 10 ∨ zi = 13) with rfl | rfl | rfl | rfl | rfl | rfl | rfl | rfl | rfl | rfl | rfl | rfl
    · first | exact absurd hzn (by decide)
    · first | exact absurd hzn (by decide)
    · first | exact absurd hzn (by decide)
    · first | exact absurd hzn (by decide)
    · first | exact absurd hzn (by decide)
    · first | exact absurd hzn (by decide)
    · first | exact absurd hzn (by decide)
    · first | exact absurd hzn (by decide)
    · first | exact absurd hzn (by decide)
    · first | exact absurd hzn (by decide)
    · injection (show some _ = some zo from hzo) with hzo; subst hzo; injection (show some _ = some zt from hzd) with hzd; subst hzd; injection (show some _ = some zd from hzG) with hzG; subst hzG
      exact (pure_extract rfl rfl rfl)
    · injection (show some _ = some zo from hzo) with hzo; subst hzo; injection (show some _ = some zt from hzd) with hzd; subst hzd; injection (show some _ = some zd from hzG) with hzG; subst hzG
      exact (pure_assign rfl rfl)
  · intro zo X hzo hXn hXG hXr
    injection (show some _ = some zo from hzo) with hzo'
    exact step_allocD (t := 8) (by rw [← hzo']; rfl) (by rw [← hzo']; rfl) rfl rfl hXn ze31 rfl rfl (fun t' z h hne => all_stays (by rfl) (hXG t' z h) hne) rfl hM0
  · intro zo X hzo hXn hXG hXr
    have hXu : 8 ∈ looks _ zo → X.lookup 8 = some (.pbox 8 0) := fun h => (hXr 8 h).trans rfl
    have hXv : 35 ∈ looks _ zo → X.lookup 35 = some (.v .pl (dfa (prodP f a b))) := fun h => (hXr 35 h).trans rfl
    injection (show some _ = some zo from hzo) with hzo'
    exact step_storeE (by rw [← hzo']; rfl) (step_storeD (u := 8) (v := 35) (id := 8) (by rw [← hzo']; rfl) (by rw [← hzo']; rfl) hXn sz31 (hXu (by rw [← hzo']; decide)) rfl (hXv (by rw [← hzo']; decide)) rfl (by decide) rfl rfl (fun t' z h => all_stays0 (by rfl) (hXG t' z h)) rfl hM0)
  refine endL_of (n := 0) (by kernel_rfl) ?_
  refine ex_end (by kernel_rfl) ?_
  refine xD tb hM0 5 [6,8,37] [6,8] rfl ?_
  refine oP rfl (pure_to (b' := false) (pure_not rfl rfl) (rfl)) ?_
  refine xA tb hM0 8 [6,40] [6] rfl ?_
  refine oP rfl (pure_call rfl rfl rfl (min_call (d := (prodP f a b))) hM0) ?_
  refine xA tb hM0 5 [] [] rfl ?_
  refine endC2_ret rfl rfl ?_; rotate_left
  all_goals
    first
      | (rw [joinZ_a (a := a) (b := b) (by assumption), joinE_a (a := a) (b := b) (by assumption)]; exact ⟨rfl, rfl⟩)
      | (rw [joinZ_b (a := a) (b := b) (by assumption), joinE_b (a := a) (b := b) (by assumption)]; exact ⟨rfl, rfl⟩)
      | (rw [joinZ_f (a := a) (b := b) (fun q => by have := q.2.2; omega), joinE_f (a := a) (b := b) (fun q => by have := q.2.2; omega)]; exact ⟨rfl, rfl⟩)
      | (rw [joinZ_t (a := a) (b := b) (by assumption) (by assumption) hse, joinE_t (a := a) (b := b) (by assumption) (by assumption) hse, ← join_min hda hdb hkk hn]; exact ⟨rfl, rfl⟩)
end Go.Proofs.YtjimlkpfmbachaaGreat

namespace Go.Proofs.YtjimlkpfmbachaaGreat
open Go.Am Go.Wc Go.Wb Go.Wd
set_option linter.unusedVariables false
set_option linter.unusedSimpArgs false
end Go.Proofs.YtjimlkpfmbachaaGreat

