/-
  The law RegexDerives holds for inputs of bulk at most 1048576: it returns true, and its arguments read as before.
-/
import Derived.Test.YtgdehkimfmfofaaGreatJ35
import Derived.Test.YtgdehkimfmfofaaGreatJ38
import Derived.Test.YtgdehkimfmfofaaGreatJ23
import Derived.JoinedCond
set_option linter.unusedVariables false
set_option linter.unusedSimpArgs false
namespace Go.Proofs.YtgdehkimfmfofaaGreat
open Go.Am Go.Wb Go.Wc
set_option linter.unusedVariables false
set_option linter.unusedSimpArgs false
theorem fn4 : Fn1 Tryz.prog 4 Tryz.f4.ntmps 8 (Tryz.f4.body.getD .skip) := ⟨Tryz.f4, Tryz.func4, rfl, rfl, rfl, by kernel_rfl⟩
set_option maxRecDepth 100000 in
set_option maxHeartbeats 8000000 in
theorem derives_law {r : Rx} {l : List Int} {s t : Int} (hr : r.size ≤ 1048576) (hl : l.length ≤ 9223372036854775807) (h64 : I64s l) (hs : I64 s) (ht : I64 t) : CallW Tryz.prog 4 [rx r, ints l, int s, int t] (.p (bool true)) := by
  obtain ⟨hx, hx2⟩ := shaped_good l (show (0 : Int) < 3 ∧ (3 : Int) ≤ 64 by decide)
  have h1 := size_simR (shapedP l 3)
  have h2 : dSz (simR (shapedP l 3)) ≤ 4 * (98 * 98) := dSz_bd (by omega)
  have h3 : (dR (symP s) (simR (shapedP l 3))).size ≤ dSz (simR (shapedP l 3)) := dSz_spec _ _
  have hn1 : Nf (dR (symP s) (simR (shapedP l 3))) := dR_nf _ (simR_nf _)
  have e1 : simR (dR (symP s) (simR (shapedP l 3))) = dR (symP s) (simR (shapedP l 3)) := simR_id hn1
  have h4 : dSz (simR (dR (symP s) (simR (shapedP l 3)))) ≤ 4 * (38416 * 38416) := by rw [e1]; exact dSz_bd (by omega)
  have h5 : (simR (dR (symP s) (simR (shapedP l 3)))).size ≤ 38416 := by rw [e1]; omega
  have h6 : (dR (symP t) (simR (dR (symP s) (simR (shapedP l 3))))).size ≤ dSz (simR (dR (symP s) (simR (shapedP l 3)))) := dSz_spec _ _
  have hsm := fun h : nodesV 60 r ≤ 60 => sim_small h
  have hd : nodesV 60 r ≤ 60 → dSz (simR r) ≤ 4 * (3900 * 3900) := fun h => dSz_bd (hsm h)
  have hd2 : (dR s (simR r)).size ≤ dSz (simR r) := dSz_spec _ _
  refine callW_of_code fn4 (Nat.le_of_ble_eq_true rfl) fun w0 M0 hM0 hdr => ?_
  refine xC tb hM0 2 [0,1,2,3] [] rfl ?_
  refine oP rfl (pure_box rfl rfl rfl hM0) ?_
  refine xA tb hM0 3 [1,2,3,4] [] rfl ?_
  refine ct (fun zs => zs = ⟨50, [(1, .v .mx (ints l)), (2, .v .mx (int s)), (3, .v .mx (int t))], []⟩) ?_ ?_
  refine xA tb hM0 3 [1,2,3,4,12] [] rfl ?_
  refine oP rfl (pure_call rfl rfl rfl (nodes_call (by decide) (by decide) _ r (Nat.le_refl _) hr) hM0) ?_
  refine xA tb hM0 3 [1,2,3,4,14] [] rfl ?_
  refine spC 14 rfl ?_ ?_ <;> intro h1 <;> try simp only [dq] at h1
  refine xA tb hM0 2 [1,2,3,4] [] rfl ?_
  refine code_draw mixed (by kernel_rfl) _ rfl ?_
  refine dl_pure rfl rfl rfl (pure_load_agg rfl ag25 sz25 rfl (Nat.le_of_ble_eq_true rfl)) ?_
  refine dl_pure rfl rfl rfl (pure_move rfl rfl) ?_
  refine dl_pure rfl rfl rfl (pure_callN rfl rfl rfl rfl (Derive_call (r := r) (a := s) (by omega) (by have := hd (by omega); omega)) hM0) ?_
  refine dl_pure rfl rfl rfl (pure_load_agg rfl ag25 sz25 rfl (Nat.le_of_ble_eq_true rfl)) ?_
  refine dl_pure rfl rfl rfl (pure_move rfl rfl) ?_
  refine dl_pure rfl rfl rfl (pure_callN rfl rfl rfl rfl (rDerive_call (r := r) (a := s) (by omega) (by have := hsm (by omega); omega) (by have := hd (by omega); omega)) hM0) ?_
  refine dl_pure rfl rfl rfl (pure_callb (b' := true) rfl rfl rfl (same_call (a := dR s (simR r)) (b := dR s (simR r)) (by have := hd (by omega); omega) (by have := hd (by omega); omega)) hM0 (same_eq rfl)) ?_
  refine dl_pure rfl rfl rfl (pure_to (b' := false) (pure_not rfl rfl) (by decide)) ?_
  refine dl_nil ?_
  refine xD tb hM0 3 [1,2,3] [] rfl ?_
  refine cx ?_
  exact rfl
  refine xA tb hM0 2 [1,2,3] [] rfl ?_
  refine cx ?_
  exact rfl
  rintro zs ⟨rfl⟩
  refine xA tb hM0 3 [2,3,23] [] rfl ?_
  refine oP rfl (pure_call rfl rfl rfl (regex_call h64 hl) hM0) ?_
  refine xA tb hM0 4 [2,3,9] [9] rfl ?_
  refine ct (fun zs => zs = ⟨50, [(2, .v .mx (int s)), (3, .v .mx (int t)), (9, .pbox 9 0), (10, .pbox 10 0)], [(9, .box 25 [.v .pl (int ((shapedP l 3)).kind), .v .pl (ints ((shapedP l 3)).syms), .v .pl (.sl (Rx.avs ((shapedP l 3)).kids))]), (10, .box 25 [.v .pl (int ((dR (symP s) (simR (shapedP l 3)))).kind), .v .pl (ints ((dR (symP s) (simR (shapedP l 3)))).syms), .v .pl (.sl (Rx.avs ((dR (symP s) (simR (shapedP l 3)))).kids))])]⟩) ?_ ?_
  refine code_draw mixed (by kernel_rfl) _ rfl ?_
  refine dl_ends (by kernel_rfl) (endL_of (n := 6) (by kernel_rfl) ?_)
  refine ex_three (i := 0) (j := 1) (k := 4) (by kernel_rfl) rfl rfl rfl rfl rfl rfl (st_pure rfl rfl (pure_load_box_agg rfl ag25 sz25 rfl rfl rfl rfl)) (st_pure rfl rfl (pure_move rfl rfl)) (step_alloc rfl rfl rfl rfl rfl ze25 rfl hM0) ?_ ?_ ?_
  refine ex_two (i := 1) (j := 4) (by kernel_rfl) rfl rfl rfl rfl (st_pure rfl rfl (pure_move rfl rfl)) (step_alloc rfl rfl rfl rfl rfl ze25 rfl hM0) ?_ ?_
  refine ex_two (i := 2) (j := 4) (by kernel_rfl) rfl rfl rfl rfl (st_pure rfl rfl (pure_call rfl rfl rfl (symbol_call hs) hM0)) (step_alloc rfl rfl rfl rfl rfl ze25 rfl hM0) ?_ ?_
  refine ex_two (i := 3) (j := 4) (by kernel_rfl) rfl rfl rfl rfl (st_pure rfl rfl (pure_callN rfl rfl rfl rfl (Derive_call (r := (shapedP l 3)) (a := symP s) (by omega) (by omega)) hM0)) (step_alloc rfl rfl rfl rfl rfl ze25 rfl hM0) ?_ ?_
  refine ex_one (i := 4) (by kernel_rfl) rfl rfl (step_alloc rfl rfl rfl rfl rfl ze25 rfl hM0) ?_
  refine ex_one (i := 5) (by kernel_rfl) rfl rfl (step_store_box rfl rfl rfl sz25 rfl rfl rfl rfl (by decide) rfl rfl hM0) ?_
  refine ex_end (by kernel_rfl) ?_
  refine xD tb hM0 0 [2,3,9,10] [9,10] rfl ?_
  refine cx ?_
  exact rfl
  refine ex_one (i := 3) (by kernel_rfl) rfl rfl (st_pure rfl rfl (pure_callN rfl rfl rfl rfl (Derive_call (r := (shapedP l 3)) (a := symP s) (by omega) (by omega)) hM0)) ?_
  refine ex_one (i := 5) (by kernel_rfl) rfl rfl (step_store_box rfl rfl rfl sz25 rfl rfl rfl rfl (by decide) rfl rfl hM0) ?_
  refine ex_end (by kernel_rfl) ?_
  refine xD tb hM0 0 [2,3,9,10] [9,10] rfl ?_
  refine cx ?_
  exact rfl
  refine ex_one (i := 2) (by kernel_rfl) rfl rfl (st_pure rfl rfl (pure_call rfl rfl rfl (symbol_call hs) hM0)) ?_
  refine ex_one (i := 3) (by kernel_rfl) rfl rfl (st_pure rfl rfl (pure_callN rfl rfl rfl rfl (Derive_call (r := (shapedP l 3)) (a := symP s) (by omega) (by omega)) hM0)) ?_
  refine ex_one (i := 5) (by kernel_rfl) rfl rfl (step_store_box rfl rfl rfl sz25 rfl rfl rfl rfl (by decide) rfl rfl hM0) ?_
  refine ex_end (by kernel_rfl) ?_
  refine xD tb hM0 0 [2,3,9,10] [9,10] rfl ?_
  refine cx ?_
  exact rfl
  refine ex_one (i := 1) (by kernel_rfl) rfl rfl (st_pure rfl rfl (pure_move rfl rfl)) ?_
  refine ex_one (i := 2) (by kernel_rfl) rfl rfl (st_pure rfl rfl (pure_call rfl rfl rfl (symbol_call hs) hM0)) ?_
  refine ex_one (i := 3) (by kernel_rfl) rfl rfl (st_pure rfl rfl (pure_callN rfl rfl rfl rfl (Derive_call (r := (shapedP l 3)) (a := symP s) (by omega) (by omega)) hM0)) ?_
  refine ex_one (i := 5) (by kernel_rfl) rfl rfl (step_store_box rfl rfl rfl sz25 rfl rfl rfl rfl (by decide) rfl rfl hM0) ?_
  refine ex_end (by kernel_rfl) ?_
  refine xD tb hM0 0 [2,3,9,10] [9,10] rfl ?_
  refine cx ?_
  exact rfl
  refine ex_three (i := 0) (j := 2) (k := 4) (by kernel_rfl) rfl rfl rfl rfl rfl rfl (st_pure rfl rfl (pure_load_box_agg rfl ag25 sz25 rfl rfl rfl rfl)) (st_pure rfl rfl (pure_call rfl rfl rfl (symbol_call hs) hM0)) (step_alloc rfl rfl rfl rfl rfl ze25 rfl hM0) ?_ ?_ ?_
  refine ex_two (i := 2) (j := 4) (by kernel_rfl) rfl rfl rfl rfl (st_pure rfl rfl (pure_call rfl rfl rfl (symbol_call hs) hM0)) (step_alloc rfl rfl rfl rfl rfl ze25 rfl hM0) ?_ ?_
  refine ex_two (i := 3) (j := 4) (by kernel_rfl) rfl rfl rfl rfl (st_pure rfl rfl (pure_callN rfl rfl rfl rfl (Derive_call (r := (shapedP l 3)) (a := symP s) (by omega) (by omega)) hM0)) (step_alloc rfl rfl rfl rfl rfl ze25 rfl hM0) ?_ ?_
  refine ex_one (i := 4) (by kernel_rfl) rfl rfl (step_alloc rfl rfl rfl rfl rfl ze25 rfl hM0) ?_
  refine ex_one (i := 5) (by kernel_rfl) rfl rfl (step_store_box rfl rfl rfl sz25 rfl rfl rfl rfl (by decide) rfl rfl hM0) ?_
  refine ex_end (by kernel_rfl) ?_
  refine xD tb hM0 0 [2,3,9,10] [9,10] rfl ?_
  refine cx ?_
  exact rfl
  refine ex_one (i := 3) (by kernel_rfl) rfl rfl (st_pure rfl rfl (pure_callN rfl rfl rfl rfl (Derive_call (r := (shapedP l 3)) (a := symP s) (by omega) (by omega)) hM0)) ?_
  refine ex_one (i := 5) (by kernel_rfl) rfl rfl (step_store_box rfl rfl rfl sz25 rfl rfl rfl rfl (by decide) rfl rfl hM0) ?_
  refine ex_end (by kernel_rfl) ?_
  refine xD tb hM0 0 [2,3,9,10] [9,10] rfl ?_
  refine cx ?_
  exact rfl
  refine ex_one (i := 2) (by kernel_rfl) rfl rfl (st_pure rfl rfl (pure_call rfl rfl rfl (symbol_call hs) hM0)) ?_
  refine ex_one (i := 3) (by kernel_rfl) rfl rfl (st_pure rfl rfl (pure_callN rfl rfl rfl rfl (Derive_call (r := (shapedP l 3)) (a := symP s) (by omega) (by omega)) hM0)) ?_
  refine ex_one (i := 5) (by kernel_rfl) rfl rfl (step_store_box rfl rfl rfl sz25 rfl rfl rfl rfl (by decide) rfl rfl hM0) ?_
  refine ex_end (by kernel_rfl) ?_
  refine xD tb hM0 0 [2,3,9,10] [9,10] rfl ?_
  refine cx ?_
  exact rfl
  refine ex_two (i := 0) (j := 4) (by kernel_rfl) rfl rfl rfl rfl (st_pure rfl rfl (pure_load_box_agg rfl ag25 sz25 rfl rfl rfl rfl)) (step_alloc rfl rfl rfl rfl rfl ze25 rfl hM0) ?_ ?_
  refine ex_two (i := 3) (j := 4) (by kernel_rfl) rfl rfl rfl rfl (st_pure rfl rfl (pure_callN rfl rfl rfl rfl (Derive_call (r := (shapedP l 3)) (a := symP s) (by omega) (by omega)) hM0)) (step_alloc rfl rfl rfl rfl rfl ze25 rfl hM0) ?_ ?_
  refine ex_one (i := 4) (by kernel_rfl) rfl rfl (step_alloc rfl rfl rfl rfl rfl ze25 rfl hM0) ?_
  refine ex_one (i := 5) (by kernel_rfl) rfl rfl (step_store_box rfl rfl rfl sz25 rfl rfl rfl rfl (by decide) rfl rfl hM0) ?_
  refine ex_end (by kernel_rfl) ?_
  refine xD tb hM0 0 [2,3,9,10] [9,10] rfl ?_
  refine cx ?_
  exact rfl
  refine ex_one (i := 3) (by kernel_rfl) rfl rfl (st_pure rfl rfl (pure_callN rfl rfl rfl rfl (Derive_call (r := (shapedP l 3)) (a := symP s) (by omega) (by omega)) hM0)) ?_
  refine ex_one (i := 5) (by kernel_rfl) rfl rfl (step_store_box rfl rfl rfl sz25 rfl rfl rfl rfl (by decide) rfl rfl hM0) ?_
  refine ex_end (by kernel_rfl) ?_
  refine xD tb hM0 0 [2,3,9,10] [9,10] rfl ?_
  refine cx ?_
  exact rfl
  refine ex_one (i := 0) (by kernel_rfl) rfl rfl (st_pure rfl rfl (pure_load_box_agg rfl ag25 sz25 rfl rfl rfl rfl)) ?_
  refine ex_one (i := 3) (by kernel_rfl) rfl rfl (st_pure rfl rfl (pure_callN rfl rfl rfl rfl (Derive_call (r := (shapedP l 3)) (a := symP s) (by omega) (by omega)) hM0)) ?_
  refine ex_one (i := 5) (by kernel_rfl) rfl rfl (step_store_box rfl rfl rfl sz25 rfl rfl rfl rfl (by decide) rfl rfl hM0) ?_
  refine ex_end (by kernel_rfl) ?_
  refine xD tb hM0 0 [2,3,9,10] [9,10] rfl ?_
  refine cx ?_
  exact rfl
  refine ex_two (i := 0) (j := 2) (by kernel_rfl) rfl rfl rfl rfl (st_pure rfl rfl (pure_load_box_agg rfl ag25 sz25 rfl rfl rfl rfl)) (st_pure rfl rfl (pure_call rfl rfl rfl (symbol_call hs) hM0)) ?_ ?_
  refine ex_one (i := 2) (by kernel_rfl) rfl rfl (st_pure rfl rfl (pure_call rfl rfl rfl (symbol_call hs) hM0)) ?_
  refine ex_one (i := 3) (by kernel_rfl) rfl rfl (st_pure rfl rfl (pure_callN rfl rfl rfl rfl (Derive_call (r := (shapedP l 3)) (a := symP s) (by omega) (by omega)) hM0)) ?_
  refine ex_one (i := 5) (by kernel_rfl) rfl rfl (step_store_box rfl rfl rfl sz25 rfl rfl rfl rfl (by decide) rfl rfl hM0) ?_
  refine ex_end (by kernel_rfl) ?_
  refine xD tb hM0 0 [2,3,9,10] [9,10] rfl ?_
  refine cx ?_
  exact rfl
  refine ex_one (i := 0) (by kernel_rfl) rfl rfl (st_pure rfl rfl (pure_load_box_agg rfl ag25 sz25 rfl rfl rfl rfl)) ?_
  refine ex_one (i := 3) (by kernel_rfl) rfl rfl (st_pure rfl rfl (pure_callN rfl rfl rfl rfl (Derive_call (r := (shapedP l 3)) (a := symP s) (by omega) (by omega)) hM0)) ?_
  refine ex_one (i := 5) (by kernel_rfl) rfl rfl (step_store_box rfl rfl rfl sz25 rfl rfl rfl rfl (by decide) rfl rfl hM0) ?_
  refine ex_end (by kernel_rfl) ?_
  refine xD tb hM0 0 [2,3,9,10] [9,10] rfl ?_
  refine cx ?_
  exact rfl
  refine ex_two (i := 0) (j := 1) (by kernel_rfl) rfl rfl rfl rfl (st_pure rfl rfl (pure_load_box_agg rfl ag25 sz25 rfl rfl rfl rfl)) (st_pure rfl rfl (pure_move rfl rfl)) ?_ ?_
  refine ex_one (i := 1) (by kernel_rfl) rfl rfl (st_pure rfl rfl (pure_move rfl rfl)) ?_
  refine ex_one (i := 2) (by kernel_rfl) rfl rfl (st_pure rfl rfl (pure_call rfl rfl rfl (symbol_call hs) hM0)) ?_
  refine ex_one (i := 3) (by kernel_rfl) rfl rfl (st_pure rfl rfl (pure_callN rfl rfl rfl rfl (Derive_call (r := (shapedP l 3)) (a := symP s) (by omega) (by omega)) hM0)) ?_
  refine ex_one (i := 5) (by kernel_rfl) rfl rfl (step_store_box rfl rfl rfl sz25 rfl rfl rfl rfl (by decide) rfl rfl hM0) ?_
  refine ex_end (by kernel_rfl) ?_
  refine xD tb hM0 0 [2,3,9,10] [9,10] rfl ?_
  refine cx ?_
  exact rfl
  refine ex_two (i := 0) (j := 2) (by kernel_rfl) rfl rfl rfl rfl (st_pure rfl rfl (pure_load_box_agg rfl ag25 sz25 rfl rfl rfl rfl)) (st_pure rfl rfl (pure_call rfl rfl rfl (symbol_call hs) hM0)) ?_ ?_
  refine ex_one (i := 2) (by kernel_rfl) rfl rfl (st_pure rfl rfl (pure_call rfl rfl rfl (symbol_call hs) hM0)) ?_
  refine ex_one (i := 3) (by kernel_rfl) rfl rfl (st_pure rfl rfl (pure_callN rfl rfl rfl rfl (Derive_call (r := (shapedP l 3)) (a := symP s) (by omega) (by omega)) hM0)) ?_
  refine ex_one (i := 5) (by kernel_rfl) rfl rfl (step_store_box rfl rfl rfl sz25 rfl rfl rfl rfl (by decide) rfl rfl hM0) ?_
  refine ex_end (by kernel_rfl) ?_
  refine xD tb hM0 0 [2,3,9,10] [9,10] rfl ?_
  refine cx ?_
  exact rfl
  refine ex_one (i := 0) (by kernel_rfl) rfl rfl (st_pure rfl rfl (pure_load_box_agg rfl ag25 sz25 rfl rfl rfl rfl)) ?_
  refine ex_one (i := 3) (by kernel_rfl) rfl rfl (st_pure rfl rfl (pure_callN rfl rfl rfl rfl (Derive_call (r := (shapedP l 3)) (a := symP s) (by omega) (by omega)) hM0)) ?_
  refine ex_one (i := 5) (by kernel_rfl) rfl rfl (step_store_box rfl rfl rfl sz25 rfl rfl rfl rfl (by decide) rfl rfl hM0) ?_
  refine ex_end (by kernel_rfl) ?_
  refine xD tb hM0 0 [2,3,9,10] [9,10] rfl ?_
  refine cx ?_
  exact rfl
  rintro zs ⟨rfl⟩
  refine ct (fun zs => zs = ⟨50, [(3, .v .mx (int t)), (10, .pbox 10 0), (11, .pbox 11 0)], [(10, .box 25 [.v .pl (int ((dR (symP s) (simR (shapedP l 3)))).kind), .v .pl (ints ((dR (symP s) (simR (shapedP l 3)))).syms), .v .pl (.sl (Rx.avs ((dR (symP s) (simR (shapedP l 3)))).kids))]), (11, .box 25 [.v .pl (int ((dR (symP s) (simR (shapedP l 3)))).kind), .v .pl (ints ((dR (symP s) (simR (shapedP l 3)))).syms), .v .pl (.sl (Rx.avs ((dR (symP s) (simR (shapedP l 3)))).kids))])]⟩) ?_ ?_
  refine code_draw mixed (by kernel_rfl) _ rfl ?_
  refine dl_ends (by kernel_rfl) (endL_of (n := 6) (by kernel_rfl) ?_)
  refine ex_three (i := 0) (j := 1) (k := 4) (by kernel_rfl) rfl rfl rfl rfl rfl rfl (st_pure rfl rfl (pure_load_box_agg rfl ag25 sz25 rfl rfl rfl rfl)) (st_pure rfl rfl (pure_move rfl rfl)) (step_alloc rfl rfl rfl rfl rfl ze25 rfl hM0) ?_ ?_ ?_
  refine ex_two (i := 1) (j := 4) (by kernel_rfl) rfl rfl rfl rfl (st_pure rfl rfl (pure_move rfl rfl)) (step_alloc rfl rfl rfl rfl rfl ze25 rfl hM0) ?_ ?_
  refine ex_two (i := 2) (j := 4) (by kernel_rfl) rfl rfl rfl rfl (st_pure rfl rfl (pure_call rfl rfl rfl (symbol_call hs) hM0)) (step_alloc rfl rfl rfl rfl rfl ze25 rfl hM0) ?_ ?_
  refine ex_two (i := 3) (j := 4) (by kernel_rfl) rfl rfl rfl rfl (st_pure rfl rfl (pure_callN rfl rfl rfl rfl (rDerive_call (r := (shapedP l 3)) (a := symP s) (by omega) (by omega) (by omega)) hM0)) (step_alloc rfl rfl rfl rfl rfl ze25 rfl hM0) ?_ ?_
  refine ex_one (i := 4) (by kernel_rfl) rfl rfl (step_alloc rfl rfl rfl rfl rfl ze25 rfl hM0) ?_
  refine ex_one (i := 5) (by kernel_rfl) rfl rfl (step_store_box rfl rfl rfl sz25 rfl rfl rfl rfl (by decide) rfl rfl hM0) ?_
  refine ex_end (by kernel_rfl) ?_
  refine xD tb hM0 0 [3,10,11] [10,11] rfl ?_
  refine cx ?_
  exact rfl
  refine ex_one (i := 3) (by kernel_rfl) rfl rfl (st_pure rfl rfl (pure_callN rfl rfl rfl rfl (rDerive_call (r := (shapedP l 3)) (a := symP s) (by omega) (by omega) (by omega)) hM0)) ?_
  refine ex_one (i := 5) (by kernel_rfl) rfl rfl (step_store_box rfl rfl rfl sz25 rfl rfl rfl rfl (by decide) rfl rfl hM0) ?_
  refine ex_end (by kernel_rfl) ?_
  refine xD tb hM0 0 [3,10,11] [10,11] rfl ?_
  refine cx ?_
  exact rfl
  refine ex_one (i := 2) (by kernel_rfl) rfl rfl (st_pure rfl rfl (pure_call rfl rfl rfl (symbol_call hs) hM0)) ?_
  refine ex_one (i := 3) (by kernel_rfl) rfl rfl (st_pure rfl rfl (pure_callN rfl rfl rfl rfl (rDerive_call (r := (shapedP l 3)) (a := symP s) (by omega) (by omega) (by omega)) hM0)) ?_
  refine ex_one (i := 5) (by kernel_rfl) rfl rfl (step_store_box rfl rfl rfl sz25 rfl rfl rfl rfl (by decide) rfl rfl hM0) ?_
  refine ex_end (by kernel_rfl) ?_
  refine xD tb hM0 0 [3,10,11] [10,11] rfl ?_
  refine cx ?_
  exact rfl
  refine ex_one (i := 1) (by kernel_rfl) rfl rfl (st_pure rfl rfl (pure_move rfl rfl)) ?_
  refine ex_one (i := 2) (by kernel_rfl) rfl rfl (st_pure rfl rfl (pure_call rfl rfl rfl (symbol_call hs) hM0)) ?_
  refine ex_one (i := 3) (by kernel_rfl) rfl rfl (st_pure rfl rfl (pure_callN rfl rfl rfl rfl (rDerive_call (r := (shapedP l 3)) (a := symP s) (by omega) (by omega) (by omega)) hM0)) ?_
  refine ex_one (i := 5) (by kernel_rfl) rfl rfl (step_store_box rfl rfl rfl sz25 rfl rfl rfl rfl (by decide) rfl rfl hM0) ?_
  refine ex_end (by kernel_rfl) ?_
  refine xD tb hM0 0 [3,10,11] [10,11] rfl ?_
  refine cx ?_
  exact rfl
  refine ex_three (i := 0) (j := 2) (k := 4) (by kernel_rfl) rfl rfl rfl rfl rfl rfl (st_pure rfl rfl (pure_load_box_agg rfl ag25 sz25 rfl rfl rfl rfl)) (st_pure rfl rfl (pure_call rfl rfl rfl (symbol_call hs) hM0)) (step_alloc rfl rfl rfl rfl rfl ze25 rfl hM0) ?_ ?_ ?_
  refine ex_two (i := 2) (j := 4) (by kernel_rfl) rfl rfl rfl rfl (st_pure rfl rfl (pure_call rfl rfl rfl (symbol_call hs) hM0)) (step_alloc rfl rfl rfl rfl rfl ze25 rfl hM0) ?_ ?_
  refine ex_two (i := 3) (j := 4) (by kernel_rfl) rfl rfl rfl rfl (st_pure rfl rfl (pure_callN rfl rfl rfl rfl (rDerive_call (r := (shapedP l 3)) (a := symP s) (by omega) (by omega) (by omega)) hM0)) (step_alloc rfl rfl rfl rfl rfl ze25 rfl hM0) ?_ ?_
  refine ex_one (i := 4) (by kernel_rfl) rfl rfl (step_alloc rfl rfl rfl rfl rfl ze25 rfl hM0) ?_
  refine ex_one (i := 5) (by kernel_rfl) rfl rfl (step_store_box rfl rfl rfl sz25 rfl rfl rfl rfl (by decide) rfl rfl hM0) ?_
  refine ex_end (by kernel_rfl) ?_
  refine xD tb hM0 0 [3,10,11] [10,11] rfl ?_
  refine cx ?_
  exact rfl
  refine ex_one (i := 3) (by kernel_rfl) rfl rfl (st_pure rfl rfl (pure_callN rfl rfl rfl rfl (rDerive_call (r := (shapedP l 3)) (a := symP s) (by omega) (by omega) (by omega)) hM0)) ?_
  refine ex_one (i := 5) (by kernel_rfl) rfl rfl (step_store_box rfl rfl rfl sz25 rfl rfl rfl rfl (by decide) rfl rfl hM0) ?_
  refine ex_end (by kernel_rfl) ?_
  refine xD tb hM0 0 [3,10,11] [10,11] rfl ?_
  refine cx ?_
  exact rfl
  refine ex_one (i := 2) (by kernel_rfl) rfl rfl (st_pure rfl rfl (pure_call rfl rfl rfl (symbol_call hs) hM0)) ?_
  refine ex_one (i := 3) (by kernel_rfl) rfl rfl (st_pure rfl rfl (pure_callN rfl rfl rfl rfl (rDerive_call (r := (shapedP l 3)) (a := symP s) (by omega) (by omega) (by omega)) hM0)) ?_
  refine ex_one (i := 5) (by kernel_rfl) rfl rfl (step_store_box rfl rfl rfl sz25 rfl rfl rfl rfl (by decide) rfl rfl hM0) ?_
  refine ex_end (by kernel_rfl) ?_
  refine xD tb hM0 0 [3,10,11] [10,11] rfl ?_
  refine cx ?_
  exact rfl
  refine ex_two (i := 0) (j := 4) (by kernel_rfl) rfl rfl rfl rfl (st_pure rfl rfl (pure_load_box_agg rfl ag25 sz25 rfl rfl rfl rfl)) (step_alloc rfl rfl rfl rfl rfl ze25 rfl hM0) ?_ ?_
  refine ex_two (i := 3) (j := 4) (by kernel_rfl) rfl rfl rfl rfl (st_pure rfl rfl (pure_callN rfl rfl rfl rfl (rDerive_call (r := (shapedP l 3)) (a := symP s) (by omega) (by omega) (by omega)) hM0)) (step_alloc rfl rfl rfl rfl rfl ze25 rfl hM0) ?_ ?_
  refine ex_one (i := 4) (by kernel_rfl) rfl rfl (step_alloc rfl rfl rfl rfl rfl ze25 rfl hM0) ?_
  refine ex_one (i := 5) (by kernel_rfl) rfl rfl (step_store_box rfl rfl rfl sz25 rfl rfl rfl rfl (by decide) rfl rfl hM0) ?_
  refine ex_end (by kernel_rfl) ?_
  refine xD tb hM0 0 [3,10,11] [10,11] rfl ?_
  refine cx ?_
  exact rfl
  refine ex_one (i := 3) (by kernel_rfl) rfl rfl (st_pure rfl rfl (pure_callN rfl rfl rfl rfl (rDerive_call (r := (shapedP l 3)) (a := symP s) (by omega) (by omega) (by omega)) hM0)) ?_
  refine ex_one (i := 5) (by kernel_rfl) rfl rfl (step_store_box rfl rfl rfl sz25 rfl rfl rfl rfl (by decide) rfl rfl hM0) ?_
  refine ex_end (by kernel_rfl) ?_
  refine xD tb hM0 0 [3,10,11] [10,11] rfl ?_
  refine cx ?_
  exact rfl
  refine ex_one (i := 0) (by kernel_rfl) rfl rfl (st_pure rfl rfl (pure_load_box_agg rfl ag25 sz25 rfl rfl rfl rfl)) ?_
  refine ex_one (i := 3) (by kernel_rfl) rfl rfl (st_pure rfl rfl (pure_callN rfl rfl rfl rfl (rDerive_call (r := (shapedP l 3)) (a := symP s) (by omega) (by omega) (by omega)) hM0)) ?_
  refine ex_one (i := 5) (by kernel_rfl) rfl rfl (step_store_box rfl rfl rfl sz25 rfl rfl rfl rfl (by decide) rfl rfl hM0) ?_
  refine ex_end (by kernel_rfl) ?_
  refine xD tb hM0 0 [3,10,11] [10,11] rfl ?_
  refine cx ?_
  exact rfl
  refine ex_two (i := 0) (j := 2) (by kernel_rfl) rfl rfl rfl rfl (st_pure rfl rfl (pure_load_box_agg rfl ag25 sz25 rfl rfl rfl rfl)) (st_pure rfl rfl (pure_call rfl rfl rfl (symbol_call hs) hM0)) ?_ ?_
  refine ex_one (i := 2) (by kernel_rfl) rfl rfl (st_pure rfl rfl (pure_call rfl rfl rfl (symbol_call hs) hM0)) ?_
  refine ex_one (i := 3) (by kernel_rfl) rfl rfl (st_pure rfl rfl (pure_callN rfl rfl rfl rfl (rDerive_call (r := (shapedP l 3)) (a := symP s) (by omega) (by omega) (by omega)) hM0)) ?_
  refine ex_one (i := 5) (by kernel_rfl) rfl rfl (step_store_box rfl rfl rfl sz25 rfl rfl rfl rfl (by decide) rfl rfl hM0) ?_
  refine ex_end (by kernel_rfl) ?_
  refine xD tb hM0 0 [3,10,11] [10,11] rfl ?_
  refine cx ?_
  exact rfl
  refine ex_one (i := 0) (by kernel_rfl) rfl rfl (st_pure rfl rfl (pure_load_box_agg rfl ag25 sz25 rfl rfl rfl rfl)) ?_
  refine ex_one (i := 3) (by kernel_rfl) rfl rfl (st_pure rfl rfl (pure_callN rfl rfl rfl rfl (rDerive_call (r := (shapedP l 3)) (a := symP s) (by omega) (by omega) (by omega)) hM0)) ?_
  refine ex_one (i := 5) (by kernel_rfl) rfl rfl (step_store_box rfl rfl rfl sz25 rfl rfl rfl rfl (by decide) rfl rfl hM0) ?_
  refine ex_end (by kernel_rfl) ?_
  refine xD tb hM0 0 [3,10,11] [10,11] rfl ?_
  refine cx ?_
  exact rfl
  refine ex_two (i := 0) (j := 1) (by kernel_rfl) rfl rfl rfl rfl (st_pure rfl rfl (pure_load_box_agg rfl ag25 sz25 rfl rfl rfl rfl)) (st_pure rfl rfl (pure_move rfl rfl)) ?_ ?_
  refine ex_one (i := 1) (by kernel_rfl) rfl rfl (st_pure rfl rfl (pure_move rfl rfl)) ?_
  refine ex_one (i := 2) (by kernel_rfl) rfl rfl (st_pure rfl rfl (pure_call rfl rfl rfl (symbol_call hs) hM0)) ?_
  refine ex_one (i := 3) (by kernel_rfl) rfl rfl (st_pure rfl rfl (pure_callN rfl rfl rfl rfl (rDerive_call (r := (shapedP l 3)) (a := symP s) (by omega) (by omega) (by omega)) hM0)) ?_
  refine ex_one (i := 5) (by kernel_rfl) rfl rfl (step_store_box rfl rfl rfl sz25 rfl rfl rfl rfl (by decide) rfl rfl hM0) ?_
  refine ex_end (by kernel_rfl) ?_
  refine xD tb hM0 0 [3,10,11] [10,11] rfl ?_
  refine cx ?_
  exact rfl
  refine ex_two (i := 0) (j := 2) (by kernel_rfl) rfl rfl rfl rfl (st_pure rfl rfl (pure_load_box_agg rfl ag25 sz25 rfl rfl rfl rfl)) (st_pure rfl rfl (pure_call rfl rfl rfl (symbol_call hs) hM0)) ?_ ?_
  refine ex_one (i := 2) (by kernel_rfl) rfl rfl (st_pure rfl rfl (pure_call rfl rfl rfl (symbol_call hs) hM0)) ?_
  refine ex_one (i := 3) (by kernel_rfl) rfl rfl (st_pure rfl rfl (pure_callN rfl rfl rfl rfl (rDerive_call (r := (shapedP l 3)) (a := symP s) (by omega) (by omega) (by omega)) hM0)) ?_
  refine ex_one (i := 5) (by kernel_rfl) rfl rfl (step_store_box rfl rfl rfl sz25 rfl rfl rfl rfl (by decide) rfl rfl hM0) ?_
  refine ex_end (by kernel_rfl) ?_
  refine xD tb hM0 0 [3,10,11] [10,11] rfl ?_
  refine cx ?_
  exact rfl
  refine ex_one (i := 0) (by kernel_rfl) rfl rfl (st_pure rfl rfl (pure_load_box_agg rfl ag25 sz25 rfl rfl rfl rfl)) ?_
  refine ex_one (i := 3) (by kernel_rfl) rfl rfl (st_pure rfl rfl (pure_callN rfl rfl rfl rfl (rDerive_call (r := (shapedP l 3)) (a := symP s) (by omega) (by omega) (by omega)) hM0)) ?_
  refine ex_one (i := 5) (by kernel_rfl) rfl rfl (step_store_box rfl rfl rfl sz25 rfl rfl rfl rfl (by decide) rfl rfl hM0) ?_
  refine ex_end (by kernel_rfl) ?_
  refine xD tb hM0 0 [3,10,11] [10,11] rfl ?_
  refine cx ?_
  exact rfl
  rintro zs ⟨rfl⟩
  refine xA tb hM0 1 [3,10,11] [10,11] rfl ?_
  refine code_draw mixed (by kernel_rfl) _ rfl ?_
  refine dl_pure rfl rfl rfl (pure_load_box_agg rfl ag25 sz25 rfl rfl rfl rfl) ?_
  refine dl_pure rfl rfl rfl (pure_load_box_agg rfl ag25 sz25 rfl rfl rfl rfl) ?_
  refine dl_pure rfl rfl rfl (pure_callb (b' := true) rfl rfl rfl (same_call (a := (dR (symP s) (simR (shapedP l 3)))) (b := (dR (symP s) (simR (shapedP l 3)))) (by omega) (by omega)) hM0 (same_eq rfl)) ?_
  refine dl_pure rfl rfl rfl (pure_move rfl rfl) ?_
  refine dl_pure_g rfl rfl rfl rfl rfl (pure_load_box_agg rfl ag25 sz25 rfl rfl rfl rfl) ?_
  refine dl_pure_g rfl rfl rfl rfl rfl (pure_move rfl rfl) ?_
  refine dl_pure_g rfl rfl rfl rfl rfl (pure_call rfl rfl rfl (symbol_call ht) hM0) ?_
  refine dpk 50 [(3,_),(11,_),(36,_),(37,_),(39,_)] [(10,_),(11,_)] rfl rfl rfl ?_
  refine dl_pure_g rfl rfl rfl rfl rfl (pure_callN rfl rfl rfl rfl (Derive_call (r := (dR (symP s) (simR (shapedP l 3)))) (a := symP t) (by omega) (by omega)) hM0) ?_
  refine dl_pure_g rfl rfl rfl rfl rfl (pure_load_box_agg rfl ag25 sz25 rfl rfl rfl rfl) ?_
  refine dl_pure_g rfl rfl rfl rfl rfl (pure_move rfl rfl) ?_
  refine dl_pure_g rfl rfl rfl rfl rfl (pure_call rfl rfl rfl (symbol_call ht) hM0) ?_
  refine dl_pure_g rfl rfl rfl rfl rfl (pure_callN rfl rfl rfl rfl (rDerive_call (r := (dR (symP s) (simR (shapedP l 3)))) (a := symP t) (by omega) (by omega) (by omega)) hM0) ?_
  refine dl_pure_g rfl rfl rfl rfl rfl (pure_callb (b' := true) rfl rfl rfl (same_call (a := (dR (symP t) (simR (dR (symP s) (simR (shapedP l 3)))))) (b := (dR (symP t) (simR (dR (symP s) (simR (shapedP l 3)))))) (by omega) (by omega)) hM0 (same_eq rfl)) ?_
  refine dl_pure rfl rfl rfl (pure_to (b' := true) (pure_pick_t rfl rfl rfl rfl) (by decide)) ?_
  refine dpk 50 [(46,_)] [(10,_),(11,_)] rfl rfl rfl ?_
  refine dl_pure rfl rfl rfl (pure_move rfl rfl) ?_
  refine dl_pure_g rfl rfl rfl rfl rfl (pure_to (b' := true) (pure_callW (r := .p (bool true)) hdr rfl rfl rfl (lives_call) hM0) (rfl)) ?_
  refine dl_pure rfl rfl rfl (pure_to (b' := true) (pure_pick_t rfl rfl rfl rfl) (by decide)) ?_
  refine dl_pure rfl rfl rfl (pure_assign rfl rfl) ?_
  refine dl_nil ?_
  refine xD tb hM0 2 [] [] rfl ?_
  refine end_ret rfl ?_
  rfl
end Go.Proofs.YtgdehkimfmfofaaGreat

namespace Go.Proofs.YtgdehkimfmfofaaGreat
open Go.Am Go.Wb Go.Wc
set_option linter.unusedVariables false
set_option linter.unusedSimpArgs false
/-! The statement RegexDerivesUptoSaid. -/
namespace regexDerives
open Go.ChangeShapes Go.WideShapes Go.ChangeAt Go.RowKit Go.Am
theorem own : ownKnob Tryz.prog.godebug = none := by kernel_rfl
set_option maxRecDepth 100000 in
theorem lifted (os : Os) (started : os.Started) (H : Type) (enc : TypeId × Value → H) (F : Stop.Interp) :
    ReturnsInHanded {} Tryz.checked os 4 .any ((Rows.OpenSpec.upto Rows.regexDerivesSpec).pre6 enc Tryz.prog Tryz.f4 Rows.regexDerivesUptoRow.domain false) (((Rows.OpenSpec.upto Rows.regexDerivesSpec).at F).post enc Tryz.prog Tryz.f4 false true false false) := by
  refine returnsInHanded_of_cond (C := Tryz.checked) (k := Rows.uptoSmall) rfl own started (by kernel_rfl) Tryz.func4
    (OpenSpec.witness (enc := enc) (C := Tryz.checked) (k := Rows.uptoSmall) rfl false ⟨#[], #[.agg #[.int .i64 0, .slice none 0 0, .slice none 0 0], .slice none 0 0, .int .i64 0, .int .i64 0], []⟩ 8 (by kernel_rfl) (by kernel_rfl) (by kernel_rfl) (x := ([.agg [.lit (.int .i64 0), .nil, .nil], .nil, .lit (.int .i64 0), .lit (.int .i64 0)], [], [])) (by kernel_rfl) (by kernel_rfl) (by kernel_rfl)) ?_
  intro W base args ds gs before hval0 hW hcnd hsm _
  have hval : ∀ (j : Nat) t v, Tryz.f4.params[j]? = some t → args[j]? = some v → Value.okWide Tryz.prog W .any base t v := hval0
  have hW' := hW
  obtain ⟨p, q, hA0, hV, rfl, hfz, hnd⟩ := hW
  have hbulk : Rows.uptoBulkAll (ds ++ gs) ≤ 1048576 := of_decide_eq_true hsm
  have hA : DataW.TrodAll enc Tryz.prog W 0 (fun _ => true) true Tryz.f4.params.toList args.toList ds p := hA0
  rw [Tryz.params4] at hA hval
  obtain ⟨v0, vs0, d0, ds0, p0, q0, hargs, rfl, rfl, h0, r0⟩ := trodAll_cons hA
  obtain ⟨v1, vs1, d1, ds1, p1, q1, rfl, rfl, rfl, h1, r1⟩ := trodAll_cons r0
  obtain ⟨v2, vs2, d2, ds2, p2, q2, rfl, rfl, rfl, h2, r2⟩ := trodAll_cons r1
  obtain ⟨v3, vs3, d3, ds3, p3, q3, rfl, rfl, rfl, h3, r3⟩ := trodAll_cons r2
  obtain ⟨rfl, rfl, rfl⟩ := trodAll_nil r3
  obtain rfl : args = #[v0, v1, v2, v3] := by cases args; simp_all
  simp only [List.cons_append, List.nil_append, Rows.uptoBulkAll] at hbulk
  obtain ⟨x0, b0, e0⟩ := open_rxA Tryz.underlying25 ⟨rfl, rfl⟩ ⟨rfl, rfl⟩ ⟨rfl, rfl⟩ Tryz.underlying3 Tryz.underlying22 Tryz.underlying23 sz3 sz22 sz23 sz25 (hval 0 25 v0 rfl rfl) h0
  have y0 : x0.size ≤ 1048576 := by omega
  obtain ⟨x1, y1, z1, e1⟩ := open_intsA Tryz.underlying22 Tryz.underlying3 sz3 (hval 1 22 v1 rfl rfl) h1
  obtain ⟨x2, y2, e2⟩ := open_intA Tryz.underlying3 (hval 2 3 v2 rfl rfl) h2
  obtain ⟨x3, y3, e3⟩ := open_intA Tryz.underlying3 (hval 3 3 v3 rfl rfl) h3
  have hcall := (derives_law y0 z1 y1 y2 y3).use (w := W) (vs := [v0, v1, v2, v3]) ⟨e0, e1, e2, e3, trivial⟩
  exact law_post (s := Rows.regexDerivesSpec) (tb := 4) (by kernel_rfl) (by kernel_rfl) (by kernel_rfl) Tryz.underlying4 rfl rfl hW' hcall
theorem over : Rows.regexDerivesUptoRow.holds Tryz.pinned (Rows.OpenSpec.upto Rows.regexDerivesSpec) :=
  OpenClaim.holds_of_cond 4 Tryz.f4 rfl rfl rfl rfl rfl rfl rfl ⟨rfl, rfl, rfl, rfl, rfl⟩ rfl rfl rfl rfl rfl (by kernel_rfl) Tryz.func4 (by kernel_rfl)
    (of_decide_eq_true (by kernel_rfl)) (by unfold Func.isWrapper; first | (rw [if_pos (by decide +kernel)]; kernel_rfl) | (rw [if_neg (by decide +kernel)]; exact ⟨rfl, rfl⟩))
    (fun os started H enc _ F => by rw [OpenClaim.pre_of_none' rfl]; exact lifted os started H enc F)
end regexDerives
theorem regexDerives_holds : Rows.RegexDerivesUptoSaid := regexDerives.over
end Go.Proofs.YtgdehkimfmfofaaGreat

