/-
  Contracts: how many words of a length are accepted.
-/
import Derived.Test.YtjimlkpfmbachaaJ35
import Derived.Test.YtjimlkpfmbachaaJ34
import Derived.Test.YtjimlkpfmbachaaJ20
import Derived.Test.YtjimlkpfmbachaaJ21
import Derived.Test.YtjimlkpfmbachaaJ28
set_option linter.unusedVariables false
set_option linter.unusedSectionVars false
set_option linter.unusedSimpArgs false
namespace Go.Proofs.Ytjimlkpfmbachaa
open Go.Am Go.Wc Go.Wb Go.Wd
set_option linter.unusedVariables false
set_option linter.unusedSimpArgs false
theorem fn24 : Fn1 Try.prog 24 Try.f24.ntmps 2 (Try.f24.body.getD .skip) := ⟨Try.f24, Try.func24, rfl, rfl, rfl, by kernel_rfl⟩
set_option maxRecDepth 100000 in
theorem cloneB_call {l : List Bool} (hl : l.length ≤ 1099511627776) (h0 : 0 < l.length) : CallF Try.prog 24 [boolsA l] (.fresh 4 (l.map bool)) := by
  refine callF_of_code fn24 (Nat.le_of_ble_eq_true rfl) fun w0 M0 hM0 => ?_
  refine xC tb hM0 2 [0] [] rfl ?_
  refine oS rfl (step_nil rfl rfl rfl rfl rfl 4 hM0) rfl ?_
  refine xA tb hM0 6 [0,3] [] rfl ?_
  refine oP rfl (pure_eqsl_ne rfl Try.underlying24 rfl rfl (by simp only [List.length_map]; exact h0)) ?_
  refine xA tb hM0 7 [0] [] rfl ?_
  refine oS rfl (step_lit0 rfl rfl rfl rfl rfl Try.underlying24 el4 hM0) rfl ?_
  refine xA tb hM0 1 [5,6] [5] rfl ?_
  refine oS rfl (step_append rfl rfl rfl rfl Try.underlying24 el4 rfl rfl hM0 (src_scm rfl (fun _ => ⟨_, rfl⟩)) (by simp only [List.length_map, List.length_nil]; omega) (by simp only [List.length_map, List.length_nil]; omega)) rfl ?_
  refine xA tb hM0 4 [] [] rfl ?_
  refine end_ret rfl ?_
  rfl
theorem fn10 : FnC Try.prog 10 Try.f10.ntmps 2 26 3 (Try.f10.body.getD .skip) := ⟨Try.f10, Try.func10, rfl, rfl, rfl, by kernel_rfl, ag26, sz26⟩
set_option maxRecDepth 100000 in
set_option maxHeartbeats 4000000 in
theorem not_call {d : Dfa} : CallF Try.prog 10 [dfa d] (.p (dfa (notZ d))) := by
  refine callF_of_codeC fn10 (Nat.le_of_ble_eq_true rfl) fun w0 M0 hM0 => ?_
  refine xC tb hM0 2 [0] [] rfl ?_
  refine oS rfl (step_box rfl rfl rfl rfl rfl rfl rfl (by decide) hM0) rfl ?_
  refine xA tb hM0 7 [1,2,4] [1,2] rfl ?_
  refine oP rfl (pure_call rfl rfl rfl (validD_call) hM0) ?_
  refine xA tb hM0 3 [1,2,6] [1,2] rfl ?_
  refine spC 6 rfl ?_ ?_ <;> intro h1 <;> try simp only [dq] at h1
  refine xA tb hM0 3 [2] [2] rfl ?_
  refine oP rfl (pure_norm (pure_build rfl pl26 ze26 rfl rfl rfl) rfl) ?_
  refine xA tb hM0 5 [] [] rfl ?_
  refine endC_ret rfl ?_; rotate_left
  have hd := valid_ok (d := d) (by assumption)
  have hn : d.n = d.next.length := rfl
  have hb := hd.1
  have hkk := kk hd
  refine xA tb hM0 7 [1,2,9] [1,2] rfl ?_
  refine oS rfl (step_call_own rfl rfl rfl rfl rfl rfl (cloneB_call (by omega) (by omega)) hM0) rfl ?_
  refine xA tb hM0 9 [1,2,13] [1,2,10] rfl ?_
  refine oP rfl (pure_lenm rfl Try.underlying24 rfl) ?_
  refine xA tb hM0 4 [1,2,14,15] [1,2,10] rfl ?_
  refine lp (fun zm zs => ∃ i : Nat, zm = d.fin.length - i ∧ (i ≤ d.fin.length) ∧ zs = ⟨31, [(1, .pbox 1 0), (2, .pbox 2 0), (14, .v .pl (int d.fin.length)), (15, .v .pl (int i))], [(1, .box 26 [.v .mx (int d.size), .v .mx (rowsA d.next), .own 10]), (2, .box 26 [.v .pl (.sc (.int .i64 0)), .v .pl (.sc (.slice none 0 0)), .v .pl (.sc (.slice none 0 0))]), (10, .arr 4 ((ng d.fin i).map bool))]⟩) ?_ ?_
  refine ⟨_, 0, rfl, Nat.zero_le _, ?_⟩
  rw [ng_zero]; rfl
  rintro zm zs ⟨i, rfl, hL1_0, rfl⟩
  refine xA tb hM0 6 [1,2,14,15,16] [1,2,10] rfl ?_
  refine spC 16 rfl ?_ ?_ <;> intro h2 <;> try simp only [dq] at h2
  refine xA tb hM0 11 [1,2,3,14,15] [1,2,10] rfl ?_
  refine code_draw mixed (by kernel_rfl) _ rfl ?_
  refine dl_pure rfl rfl rfl (pure_field_box rfl fd26_2 rfl rfl) ?_
  refine dl_pure rfl rfl rfl (pure_load_box rfl ag24 rfl rfl rfl) ?_
  refine dl_pure rfl rfl rfl (pure_move rfl rfl) ?_
  refine dl_pure rfl rfl rfl (pure_field_box rfl fd26_2 rfl rfl) ?_
  refine dl_pure rfl rfl rfl (pure_load_box rfl ag24 rfl rfl rfl) ?_
  refine dl_pure rfl rfl rfl (pure_move rfl rfl) ?_
  refine dl_pure rfl rfl rfl (pure_index_own rfl Try.underlying24 sz4 rfl rfl rfl (by rw [List.length_map, ng_len]; omega)) ?_
  refine dpk 31 [(1,_),(2,_),(14,_),(15,_),(19,_),(20,_),(24,_)] [(1,_),(2,_),(10,_)] rfl rfl rfl ?_
  refine dl_pure rfl rfl rfl (pure_load_pel rfl ag4 rfl rfl (mget (by rw [ng_len]; omega)) rfl) ?_
  refine dl_pure rfl rfl rfl (pure_not rfl rfl) ?_
  refine dl_pure rfl rfl rfl (pure_index_own rfl Try.underlying24 sz4 rfl rfl rfl (by rw [List.length_map, ng_len]; omega)) ?_
  refine dl_tails (by kernel_rfl) ?_
  refine tl_step rfl (step_store_pel rfl rfl rfl sz4 rfl rfl (mget (by rw [ng_len]; omega)) rfl rfl (.inl rfl) rfl (Nat.le_of_ble_eq_true rfl) hM0) ?_
  refine tl_nil ?_
  refine xD tb hM0 3 [1,2,14,15] [1,2,10] rfl ?_
  refine oP rfl (pure_addi rfl rfl rfl (by omega)) ?_
  refine xA tb hM0 2 [1,2,14,15] [1,2,10] rfl ?_
  refine nx ?_
  refine ⟨_, ⟨i + 1, rfl, by omega, ?_⟩, by omega⟩
  rw [← ng_set (by omega)]; rfl
  refine xA tb hM0 7 [1,2] [1,2,10] rfl ?_
  obtain rfl : i = d.fin.length := by omega
  rw [ng_all]
  refine xA tb hM0 2 [2,29] [2] rfl ?_
  refine oP rfl (pure_call rfl rfl rfl (min_call (d := flipD d)) hM0) ?_
  refine xA tb hM0 4 [] [] rfl ?_
  refine endC_ret rfl ?_; rotate_left
  all_goals
    first
      | (rw [notZ_f (d := d) (by assumption)]; first | done | rfl)
      | (rw [notZ_t (d := d) (by assumption)]; first | done | rfl)
theorem fn11 : FnC Try.prog 11 Try.f11.ntmps 2 26 3 (Try.f11.body.getD .skip) := ⟨Try.f11, Try.func11, rfl, rfl, rfl, by kernel_rfl, ag26, sz26⟩
set_option maxRecDepth 100000 in
set_option maxHeartbeats 4000000 in
theorem rnot_call {d : Dfa} : CallF Try.prog 11 [dfa d] (.p (dfa (notZ d))) := by
  refine callF_of_codeC fn11 (Nat.le_of_ble_eq_true rfl) fun w0 M0 hM0 => ?_
  refine xC tb hM0 2 [0] [] rfl ?_
  refine oP rfl (pure_box rfl rfl rfl hM0) ?_
  refine xA tb hM0 7 [1,2,5] [2] rfl ?_
  refine oP rfl (pure_call rfl rfl rfl (rvalidD_call) hM0) ?_
  refine xA tb hM0 3 [1,2,7] [2] rfl ?_
  refine spC 7 rfl ?_ ?_ <;> intro h1 <;> try simp only [dq] at h1
  refine xA tb hM0 3 [2] [2] rfl ?_
  refine oP rfl (pure_norm (pure_build rfl pl26 ze26 rfl rfl rfl) rfl) ?_
  refine xA tb hM0 5 [] [] rfl ?_
  refine endC_ret rfl ?_; rotate_left
  have hd := valid_ok (d := d) (by assumption)
  have hn : d.n = d.next.length := rfl
  have hb := hd.1
  have hkk := kk hd
  refine xA tb hM0 16 [1,2,3] [2,3] rfl ?_
  refine code_nilownC 3 2 42 4 26 hM0 rfl rfl rfl rfl ?_
  refine xK tb hM0 5 [1,2,3,4] [2,3,42] rfl ?_
  refine lp (fun zm zs => ∃ i : Nat, zm = d.fin.length - i ∧ (i ≤ d.fin.length) ∧ zs = ⟨34, [(1, .v .mx (dpc d)), (2, .pbox 2 0), (3, .pbox 3 0), (4, .v .pl (int i))], [(2, .box 26 [.v .pl (.sc (.int .i64 0)), .v .pl (.sc (.slice none 0 0)), .v .pl (.sc (.slice none 0 0))]), (3, .box 26 [.v .mx (int d.size), .v .mx (rowsA d.next), .own 42]), (42, .arr 4 (((d.fin.take i).map fun b => !b).map bool))]⟩) ?_ ?_
  exact ⟨_, 0, rfl, Nat.zero_le _, rfl⟩
  rintro zm zs ⟨i, rfl, hL1_0, rfl⟩
  refine xA tb hM0 6 [1,2,3,4,14,16] [2,3,42] rfl ?_
  refine oP rfl (pure_lenm rfl Try.underlying24 rfl) ?_
  refine xA tb hM0 3 [1,2,3,4,18] [2,3,42] rfl ?_
  refine spC 18 rfl ?_ ?_ <;> intro h2 <;> try simp only [dq] at h2
  refine xA tb hM0 5 [1,2,3,4] [2,3,42] rfl ?_
  refine code_draw mixed (by kernel_rfl) _ rfl ?_
  refine dl_pure rfl rfl rfl (pure_field_box rfl fd26_2 rfl rfl) ?_
  refine dl_pure rfl rfl rfl (pure_load_box rfl ag24 rfl rfl rfl) ?_
  refine dl_pure rfl rfl rfl (pure_field rfl fd26_2 rfl) ?_
  refine dl_pure rfl rfl rfl (pure_load rfl ag24 rfl rfl) ?_
  refine dl_pure rfl rfl rfl (pure_move rfl rfl) ?_
  refine dl_pure rfl rfl rfl (pure_ix rfl Try.underlying24 sz4 rfl rfl (by omega) (fun _ => rfl)) ?_
  refine dl_pure rfl rfl rfl (pure_load rfl ag4 rfl rfl) ?_
  refine dpk 34 [(1,_),(2,_),(3,_),(4,_),(22,_),(27,_)] [(2,_),(3,_),(42,_)] rfl rfl rfl ?_
  refine dl_pure rfl rfl rfl (pure_not rfl rfl) ?_
  refine dl_pure rfl rfl rfl (pure_lit rfl Try.underlying24 el4 rfl rfl rfl rfl hM0) ?_
  refine dl_tails (by kernel_rfl) ?_
  refine tl_step rfl (step_append rfl rfl rfl rfl Try.underlying24 el4 rfl rfl hM0 (src_pl rfl (one_len (by rfl))) (by rw [List.length_map, List.length_map, List.length_take]; simp only [List.length_cons, List.length_nil]; omega) (by rw [List.length_map, List.length_map, List.length_take]; simp only [List.length_cons, List.length_nil]; omega)) ?_
  refine tl_pure rfl rfl rfl (pure_field_box rfl fd26_2 rfl rfl) ?_
  refine tl_step rfl (step_store_box_own rfl rfl rfl sz24 rfl rfl rfl rfl rfl hM0) ?_
  refine tl_nil ?_
  refine xD tb hM0 4 [1,2,3,19] [2,3,42] rfl ?_
  refine oP rfl (pure_addi rfl rfl rfl (by omega)) ?_
  refine xA tb hM0 2 [1,2,3,4] [2,3,42] rfl ?_
  refine nx ?_
  refine ⟨_, ⟨i + 1, rfl, by omega, ?_⟩, by omega⟩
  rw [take_one (l := d.fin) (i := i) (by omega), List.map_append, List.map_append]; rfl
  refine xA tb hM0 7 [2,3] [2,3,42] rfl ?_
  rw [take_all (l := d.fin) (i := i) (by omega)]
  refine xA tb hM0 2 [2,32] [2] rfl ?_
  refine oP rfl (pure_call rfl rfl rfl (rmin_call (d := flipD d)) hM0) ?_
  refine xA tb hM0 4 [] [] rfl ?_
  refine endC_ret rfl ?_; rotate_left
  all_goals
    first
      | (rw [notZ_f (d := d) (by assumption)]; first | done | rfl)
      | (rw [notZ_t (d := d) (by assumption)]; first | done | rfl)
theorem fn46 : Fn1 Try.prog 46 Try.f46.ntmps 5 (Try.f46.body.getD .skip) := ⟨Try.f46, Try.func46, rfl, rfl, rfl, by kernel_rfl⟩
set_option maxRecDepth 100000 in
theorem least1_call {d : Dfa} {x s : Nat} (hd : okD d) (hx : x < d.next.length) (hs : s < d.k) : CallF Try.prog 46 ([natI x, natI s] ++ [dpc d]) (.p (natI (d.stp x s))) := by
  have hkk := kk hd
  have hrow := (hd.row hx).1
  refine callF_of_code fn46 (Nat.le_of_ble_eq_true rfl) fun w0 M0 hM0 => ?_
  refine xC tb hM0 10 [1,7,8] [] rfl ?_
  refine oP rfl (pure_ix rfl Try.underlying23 sz22 rfl rfl (by omega) (fun _ => rfl)) ?_
  refine xA tb hM0 2 [10,11] [] rfl ?_
  refine oP rfl (pure_ix rfl Try.underlying22 sz3 rfl rfl (by exact ⟨Int.natCast_nonneg _, Int.ofNat_lt.2 (show s < (d.next.getD x default).length by omega)⟩) (fun _ => rfl)) ?_
  refine xA tb hM0 5 [] [] rfl ?_
  refine end_ret rfl ?_
  have e := hd.cellN hx (k := s) (by omega)
  exact (by rw [show RV.p (natI (d.stp x s)) = RV.p (int ((d.next.getD x default).getD s default)) from by rw [e]]; first | done | rfl)
theorem fn47 : Fn1 Try.prog 47 Try.f47.ntmps 3 (Try.f47.body.getD .skip) := ⟨Try.f47, Try.func47, rfl, rfl, rfl, by kernel_rfl⟩
set_option maxRecDepth 100000 in
theorem least2_call {d : Dfa} {x : Nat} (hx : x < d.fin.length) : CallF Try.prog 47 ([natI x] ++ [dpc d]) (.p (bool (d.fn x))) := by
  refine callF_of_code fn47 (Nat.le_of_ble_eq_true rfl) fun w0 M0 hM0 => ?_
  refine xC tb hM0 10 [5,6] [] rfl ?_
  refine oP rfl (pure_ix rfl Try.underlying24 sz4 rfl rfl (by omega) (fun _ => rfl)) ?_
  refine xA tb hM0 5 [] [] rfl ?_
  refine end_ret rfl ?_
  rfl
theorem fn26 : Fn2 Try.prog 26 Try.f26.ntmps 2 3 (Try.f26.body.getD .skip) := ⟨Try.f26, Try.func26, rfl, rfl, rfl, by kernel_rfl⟩
set_option maxRecDepth 100000 in
set_option maxHeartbeats 4000000 in
theorem least_call {d : Dfa} : CallF Try.prog 26 [dfa d] (.p (.tup [resW (leastZ d), bool (leastZ d).isSome])) := by
  refine callF_of_code2 fn26 (Nat.le_of_ble_eq_true rfl) fun w0 M0 hM0 => ?_
  refine xC tb hM0 2 [0] [] rfl ?_
  refine oP rfl (pure_box rfl rfl rfl hM0) ?_
  refine xA tb hM0 8 [1,4] [] rfl ?_
  refine oP rfl (pure_call rfl rfl rfl (validD_call) hM0) ?_
  refine xA tb hM0 3 [1,6] [] rfl ?_
  refine spC 6 rfl ?_ ?_ <;> intro h1 <;> try simp only [dq] at h1
  refine xA tb hM0 9 [] [] rfl ?_
  refine end2_ret rfl rfl ?_; rotate_left
  have hd := valid_ok (d := d) (by assumption)
  have hn : d.n = d.next.length := rfl
  have hb := hd.1
  have hkk := kk hd
  refine xA tb hM0 7 [1,8] [] rfl ?_
  refine oP rfl (pure_func rfl rfl) ?_
  refine oP rfl (pure_func rfl rfl) ?_
  refine xA tb hM0 0 [8,9,10] [] rfl ?_
  refine oP rfl (pure_call rfl rfl rfl (searchI_call (U := List.range d.n) (next := d.stp) (good := d.fn) (size := d.k) (N := d.n) (start := 0) ⟨by omega, by omega⟩ (stpD_mem hd) (List.mem_range.2 (by omega)) (by rw [List.length_range]; exact Nat.le_refl _) (by rw [List.length_range]; omega) hkk.1 (fun x hx s hs => least1_call hd (List.mem_range.1 hx) hs) (fun x hx => least2_call (by have := List.mem_range.1 hx; omega))) hM0) ?_
  refine xA tb hM0 7 [] [] rfl ?_
  refine end2_ret rfl rfl ?_; rotate_left
  all_goals
    first
      | (rw [leastZ_f (d := d) (by assumption)]; exact ⟨rfl, rfl⟩)
      | (rw [leastZ_t (d := d) (by assumption)]; exact ⟨rfl, rfl⟩)
end Go.Proofs.Ytjimlkpfmbachaa

namespace Go.Proofs.Ytjimlkpfmbachaa
open Go.Am Go.Wc Go.Wb Go.Wd
set_option linter.unusedVariables false
set_option linter.unusedSimpArgs false
theorem fn27 : Fn1 Try.prog 27 Try.f27.ntmps 4 (Try.f27.body.getD .skip) := ⟨Try.f27, Try.func27, rfl, rfl, rfl, by kernel_rfl⟩
set_option maxRecDepth 100000 in
set_option maxHeartbeats 8000000 in
theorem countD_call {d : Dfa} {n : Int} : CallF Try.prog 27 [dfa d, int n] (.p (u64I (countZ d n))) := by
  refine callF_of_code fn27 (Nat.le_of_ble_eq_true rfl) fun w0 M0 hM0 => ?_
  refine xC tb hM0 2 [0,1] [] rfl ?_
  refine oP rfl (pure_box rfl rfl rfl hM0) ?_
  refine xA tb hM0 7 [1,2,14] [] rfl ?_
  refine oP rfl (pure_call rfl rfl rfl (validD_call) hM0) ?_
  refine xA tb hM0 2 [1,2,17] [] rfl ?_
  refine spO 17 rfl ?_ ?_ <;> intro h1' <;> try simp only [dq] at h1'
  refine xA tb hM0 17 [] [] rfl ?_
  refine end_ret rfl ?_; rotate_left
  refine xA tb hM0 4 [1,2,21] [] rfl ?_
  refine spO 21 rfl ?_ ?_ <;> intro h2' <;> try simp only [dq] at h2'
  refine xA tb hM0 13 [] [] rfl ?_
  refine end_ret rfl ?_; rotate_left
  refine xA tb hM0 5 [1,2,24] [] rfl ?_
  refine spC 24 rfl ?_ ?_ <;> intro h3 <;> try simp only [dq] at h3
  refine xA tb hM0 8 [] [] rfl ?_
  refine end_ret rfl ?_; rotate_left
  have hd := valid_ok (d := d) (by assumption)
  have hn : d.n = d.next.length := rfl
  have hb := hd.1
  have hkk := kk hd
  have hfn : d.fin.length = d.n := hb.2.2
  refine xA tb hM0 7 [1,2,26] [] rfl ?_
  refine oP rfl (pure_lenm rfl Try.underlying23 rfl) ?_
  refine oS rfl (step_make rfl rfl rfl rfl Try.underlying77 el52 ze52 rfl rfl rfl (by omega) (by omega) (by omega) hM0) rfl ?_
  refine xA tb hM0 6 [1,2,5,29] [28] rfl ?_
  refine oP rfl (pure_index_own rfl Try.underlying77 sz52 rfl rfl rfl (by rw [List.length_replicate]; omega)) ?_
  refine oS rfl (step_store_pel rfl rfl rfl sz52 rfl rfl (rep_get (by omega)) rfl rfl (.inl rfl) rfl (Nat.le_of_ble_eq_true rfl) hM0) rfl ?_
  refine xA tb hM0 4 [1,2,5] [28] rfl ?_
  refine code_frz 82 [(1, _), (2, _), (5, _)] [] hM0 rfl ⟨.inl rfl, .inl rfl, .inr ⟨_, _, rfl, rfl, rfl⟩, trivial⟩ trivial ?_
  refine xK tb hM0 6 [2,5,31,32] [] rfl ?_
  refine lp (fun zm zs => ∃ t : Nat, zm = n.toNat - t ∧ ((t : Int) ≤ n) ∧ zs = ⟨82, [(2, .v .mx (dpc d)), (5, .v .pl (.sl (((cVec d t)).map u64I))), (31, .v .mx (int n)), (32, .v .pl (int t))], []⟩) ?_ ?_
  refine ⟨_, 0, rfl, by omega, ?_⟩
  rw [← cVec_0, ← rep_mapU]; rfl
  rintro zm zs ⟨t, rfl, hL1_0, rfl⟩
  have hcv := cVec_len (d := d) t
  refine xA tb hM0 6 [2,5,31,32,33] [] rfl ?_
  refine spC 33 rfl ?_ ?_ <;> intro h4 <;> try simp only [dq] at h4
  refine xA tb hM0 8 [2,5,31,32,34] [] rfl ?_
  refine oP rfl (pure_lenm rfl Try.underlying77 rfl) ?_
  refine oS rfl (step_make rfl rfl rfl rfl Try.underlying77 el52 ze52 rfl rfl rfl (by omega) (by omega) (by omega) hM0) rfl ?_
  refine xA tb hM0 8 [2,5,6,31,32,38] [36] rfl ?_
  refine oP rfl (pure_lenm rfl Try.underlying23 rfl) ?_
  refine xA tb hM0 4 [2,5,6,31,32,38,39,40] [36] rfl ?_
  refine lp (fun zm zs => ∃ i : Nat, zm = d.next.length - i ∧ (i ≤ d.next.length) ∧ zs = ⟨82, [(2, .v .mx (dpc d)), (5, .v .pl (.sl (((cVec d t)).map u64I))), (6, .own 36), (31, .v .mx (int n)), (32, .v .pl (int t)), (38, .v .mx (rowsA d.next)), (39, .v .pl (int d.next.length)), (40, .v .pl (int i))], [(36, .arr 52 ((cStepN d (cVec d t) i).map u64I))]⟩) ?_ ?_
  refine ⟨_, 0, rfl, Nat.zero_le _, ?_⟩
  rw [cStepN, ← rep_mapU, ← hcv]; rfl
  rintro zm zs ⟨i, rfl, hL2_0, rfl⟩
  have hcs := cStepN_len (d := d) (cVec d t) i
  refine xA tb hM0 6 [2,5,6,31,32,38,39,40,41] [36] rfl ?_
  refine spC 41 rfl ?_ ?_ <;> intro h5 <;> try simp only [dq] at h5
  refine xA tb hM0 8 [2,5,6,31,32,38,39,40,42] [36] rfl ?_
  refine oP rfl (pure_ix rfl Try.underlying23 sz22 rfl rfl (by omega) (fun _ => rfl)) ?_
  refine xA tb hM0 8 [2,5,6,7,31,32,38,39,40,45] [36] rfl ?_
  refine oP rfl (pure_lenm rfl Try.underlying22 rfl) ?_
  refine xA tb hM0 4 [2,5,6,7,31,32,38,39,40,45,46,47] [36] rfl ?_
  have hi : i < d.next.length := by omega
  have hrow := (hd.row hi).1
  refine lp (fun zm zs => ∃ s : Nat, zm = (d.next.getD i default).length - s ∧ (s ≤ (d.next.getD i default).length) ∧ zs = ⟨82, [(2, .v .mx (dpc d)), (5, .v .pl (.sl (((cVec d t)).map u64I))), (6, .own 36), (7, .v .pl (int i)), (31, .v .mx (int n)), (32, .v .pl (int t)), (38, .v .mx (rowsA d.next)), (39, .v .pl (int d.next.length)), (40, .v .pl (int i)), (45, .v .mx (ints (d.next.getD i default))), (46, .v .pl (int (d.next.getD i default).length)), (47, .v .pl (int s))], [(36, .arr 52 ((cRow d ((cVec d t).getD i default) i (cStepN d (cVec d t) i) s).map u64I))]⟩) ?_ ?_
  exact ⟨_, 0, rfl, Nat.zero_le _, rfl⟩
  rintro zm zs ⟨s, rfl, hL3_0, rfl⟩
  have hcl3 := cRow_len (d := d) ((cVec d t).getD i default) i (cStepN d (cVec d t) i) s
  rw [hcs] at hcl3
  refine xA tb hM0 6 [2,5,6,7,31,32,38,39,40,45,46,47,48] [36] rfl ?_
  refine spC 48 rfl ?_ ?_ <;> intro h6 <;> try simp only [dq] at h6
  refine xA tb hM0 5 [2,5,6,7,31,32,38,39,40,45,46,47] [36] rfl ?_
  refine ct (fun zs => zs = ⟨82, [(2, .v .mx (dpc d)), (5, .v .pl (.sl (((cVec d t)).map u64I))), (6, .own 36), (7, .v .pl (int i)), (10, .v .mx (natI (d.stp i s))), (31, .v .mx (int n)), (32, .v .pl (int t)), (38, .v .mx (rowsA d.next)), (39, .v .pl (int d.next.length)), (40, .v .pl (int i)), (45, .v .mx (ints (d.next.getD i default))), (46, .v .pl (int (d.next.getD i default).length)), (47, .v .pl (int s))], [(36, .arr 52 ((cRow d ((cVec d t).getD i default) i (cStepN d (cVec d t) i) s).map u64I))]⟩) ?_ ?_
  refine xA tb hM0 1 [2,5,6,7,31,32,38,39,40,45,46,47] [36] rfl ?_
  refine oP rfl (pure_ix rfl Try.underlying22 sz3 rfl rfl (by omega) (fun _ => rfl)) ?_
  refine xA tb hM0 3 [2,5,6,7,10,31,32,38,39,40,45,46,47] [36] rfl ?_
  refine cx ?_
  have hst := hd.cellN hi (k := s) (by omega)
  exact (by (try simp only [Int.toNat_natCast]); rw [hst]; first | done | rfl)
  rintro zs ⟨rfl⟩
  have hsl : d.stp i s < d.n := hd.stp hi (by omega)
  refine code_draw mixed (by kernel_rfl) _ rfl ?_
  refine dl_pure rfl rfl rfl (pure_move rfl rfl) ?_
  refine dl_pure rfl rfl rfl (pure_move rfl rfl) ?_
  refine dl_pure rfl rfl rfl (pure_index_own rfl Try.underlying77 sz52 rfl rfl rfl (by exact ⟨Int.natCast_nonneg _, by rw [List.length_map, hcl3]; exact Int.ofNat_lt.2 hsl⟩)) ?_
  refine dl_pure rfl rfl rfl (pure_load_pel rfl ag52 rfl rfl (mget (by rw [hcl3]; exact hsl)) rfl) ?_
  refine dl_pure rfl rfl rfl (pure_move rfl rfl) ?_
  refine dl_pure rfl rfl rfl (pure_move rfl rfl) ?_
  refine dl_pure rfl rfl rfl (pure_ix rfl Try.underlying77 sz52 rfl rfl (by omega) (fun _ => rfl)) ?_
  refine dpk 82 [(2,_),(5,_),(6,_),(7,_),(31,_),(32,_),(38,_),(39,_),(40,_),(45,_),(46,_),(47,_),(51,_),(52,_),(54,_),(57,_)] [(36,_)] rfl rfl rfl ?_
  refine dl_pure rfl rfl rfl (pure_load rfl ag52 rfl rfl) ?_
  refine dl_pure rfl rfl rfl (pure_add rfl rfl rfl) ?_
  refine dl_pure rfl rfl rfl (pure_index_own rfl Try.underlying77 sz52 rfl rfl rfl (by exact ⟨Int.natCast_nonneg _, by rw [List.length_map, hcl3]; exact Int.ofNat_lt.2 hsl⟩)) ?_
  refine dl_tails (by kernel_rfl) ?_
  refine tl_step rfl (step_store_pel rfl rfl rfl sz52 rfl rfl (mget (by rw [hcl3]; exact hsl)) rfl rfl (.inl rfl) rfl (Nat.le_of_ble_eq_true rfl) hM0) ?_
  refine tl_nil ?_
  refine xD tb hM0 3 [2,5,6,7,31,32,38,39,40,45,46,47] [36] rfl ?_
  refine oP rfl (pure_addi rfl rfl rfl (by omega)) ?_
  refine xA tb hM0 2 [2,5,6,7,31,32,38,39,40,45,46,47] [36] rfl ?_
  refine nx ?_
  refine ⟨_, ⟨s + 1, rfl, by omega, ?_⟩, by omega⟩
  rw [cRow, addAt_map]; rfl
  refine xA tb hM0 8 [2,5,6,31,32,38,39,40] [36] rfl ?_
  refine oP rfl (pure_addi rfl rfl rfl (by omega)) ?_
  refine xA tb hM0 2 [2,5,6,31,32,38,39,40] [36] rfl ?_
  refine nx ?_
  obtain rfl : s = d.k := by omega
  exact ⟨_, ⟨i + 1, rfl, by omega, rfl⟩, by omega⟩
  refine xA tb hM0 6 [2,6,31,32] [36] rfl ?_
  refine code_frz 82 [(2, _), (6, _), (31, _), (32, _)] [] hM0 rfl ⟨.inl rfl, .inr ⟨_, _, rfl, rfl, rfl⟩, .inl rfl, .inl rfl, trivial⟩ trivial ?_
  obtain rfl : i = d.n := by omega
  refine xK tb hM0 7 [2,5,31,32] [] rfl ?_
  refine oP rfl (pure_addi rfl rfl rfl (by omega)) ?_
  refine xA tb hM0 2 [2,5,31,32] [] rfl ?_
  refine nx ?_
  exact ⟨_, ⟨t + 1, rfl, by omega, rfl⟩, by omega⟩
  refine xA tb hM0 7 [2,5] [] rfl ?_
  obtain rfl : t = n.toNat := by omega
  refine xA tb hM0 9 [5,11,66] [] rfl ?_
  refine oP rfl (pure_lenm rfl Try.underlying24 rfl) ?_
  refine xA tb hM0 4 [5,11,66,67,68] [] rfl ?_
  refine lp (fun zm zs => ∃ i : Nat, zm = d.fin.length - i ∧ (i ≤ d.fin.length) ∧ zs = ⟨82, [(5, .v .pl (.sl ((cVec d n.toNat).map u64I))), (11, .v .pl (u64I (cSum d (cVec d n.toNat) i))), (66, .v .mx (boolsA d.fin)), (67, .v .pl (int d.fin.length)), (68, .v .pl (int i))], []⟩) ?_ ?_
  exact ⟨_, 0, rfl, Nat.zero_le _, rfl⟩
  rintro zm zs ⟨i, rfl, hL4_0, rfl⟩
  refine xA tb hM0 6 [5,11,66,67,68,69] [] rfl ?_
  refine spC 69 rfl ?_ ?_ <;> intro h7 <;> try simp only [dq] at h7
  refine xA tb hM0 8 [5,11,66,67,68,70] [] rfl ?_
  refine oP rfl (pure_ix rfl Try.underlying24 sz4 rfl rfl (by omega) (fun _ => rfl)) ?_
  refine xA tb hM0 10 [5,11,12,66,67,68,73] [] rfl ?_
  refine spC 73 rfl ?_ ?_ <;> intro h8 <;> try simp only [dq] at h8
  refine xA tb hM0 5 [5,66,67,68,74,75,76] [] rfl ?_
  refine oP rfl (pure_ix rfl Try.underlying77 sz52 rfl rfl (by omega) (fun _ => rfl)) ?_
  refine xA tb hM0 1 [5,66,67,68,74,78] [] rfl ?_
  refine oP rfl (pure_add rfl rfl rfl) ?_
  refine xA tb hM0 5 [5,11,66,67,68] [] rfl ?_
  refine oP rfl (pure_addi rfl rfl rfl (by omega)) ?_
  refine xA tb hM0 2 [5,11,66,67,68] [] rfl ?_
  refine nx ?_
  refine ⟨_, ⟨i + 1, rfl, by omega, ?_⟩, by omega⟩
  rw [cSum_t (d := d) (i := i) (v := cVec d n.toNat) (by assumption)]; rfl
  refine xA tb hM0 5 [5,11,66,67,68] [] rfl ?_
  refine oP rfl (pure_addi rfl rfl rfl (by omega)) ?_
  refine xA tb hM0 2 [5,11,66,67,68] [] rfl ?_
  refine nx ?_
  refine ⟨_, ⟨i + 1, rfl, by omega, ?_⟩, by omega⟩
  rw [cSum_f (d := d) (i := i) (v := cVec d n.toNat) (by assumption)]; rfl
  refine xA tb hM0 7 [11] [] rfl ?_
  obtain rfl : i = d.fin.length := by omega
  refine xA tb hM0 6 [] [] rfl ?_
  refine end_ret rfl ?_; rotate_left
  all_goals
    first
      | (rw [countZ_v (d := d) (by assumption)]; first | done | rfl)
      | (rw [countZ_f (d := d) (n := n) (fun q => by omega)]; first | done | rfl)
      | (rw [countZ_t (d := d) (n := n) (by assumption) (by omega) (by omega), countP, ← hfn]; first | done | rfl)
end Go.Proofs.Ytjimlkpfmbachaa

