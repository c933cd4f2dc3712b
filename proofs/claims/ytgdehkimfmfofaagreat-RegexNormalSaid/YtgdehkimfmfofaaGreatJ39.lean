/-
  The law RegexNormal holds: for every input it returns true, and its arguments read as before.
-/
import Derived.Test.YtgdehkimfmfofaaGreatJ34
import Derived.Test.YtgdehkimfmfofaaGreatJ38
import Derived.Test.YtgdehkimfmfofaaGreatJ24
import Derived.Test.YtgdehkimfmfofaaGreatJ19
import Derived.Test.YtgdehkimfmfofaaGreatJ22
import Derived.Test.YtgdehkimfmfofaaGreatJ20
set_option linter.unusedVariables false
set_option linter.unusedSimpArgs false
namespace Go.Proofs.YtgdehkimfmfofaaGreat
open Go.Am Go.Wb Go.Wc
set_option linter.unusedVariables false
set_option linter.unusedSimpArgs false
theorem fn53 : Fn1 Tryz.prog 53 Tryz.f53.ntmps 0 (Tryz.f53.body.getD .skip) := ⟨Tryz.f53, Tryz.func53, rfl, rfl, rfl, by kernel_rfl⟩
set_option maxRecDepth 100000 in
theorem abc_call : CallF Tryz.prog 53 [] (.p (letters abcL)) := by
  refine callF_of_code fn53 (Nat.le_of_ble_eq_true rfl) fun w0 M0 hM0 => ?_
  refine code_seq ?_
  refine code_ops _ rfl ?_
  refine ol_pure rfl rfl rfl (pure_assign rfl rfl) ?_
  refine ol_nil ?_
  refine spk 5 [] [] rfl rfl rfl ?_
  refine code_seq ?_
  refine code_ops _ rfl ?_
  refine ol_pure rfl rfl rfl (pure_build rfl pl83 ze83 rfl rfl rfl) ?_
  refine ol_pure rfl rfl rfl (pure_build rfl pl83 ze83 rfl rfl rfl) ?_
  refine ol_pure rfl rfl rfl (pure_build rfl pl83 ze83 rfl rfl rfl) ?_
  refine ol_pure rfl rfl rfl (pure_lit rfl Tryz.underlying39 el83 rfl rfl rfl rfl hM0) ?_
  refine ol_pure rfl rfl rfl (pure_assign rfl rfl) ?_
  refine ol_nil ?_
  refine spk 5 [(0,_)] [] rfl rfl rfl ?_
  refine code_ret ?_
  refine end_ret rfl ?_
  rfl
theorem lvp {s : List UInt8} (hs : s.length ≤ 100) : CallF Tryz.prog 32 [sbytes s, letters abcL, .sl []] (.p (.tup [rx (parseP abcL [] s).1, int (parseP abcL [] s).2])) :=
  parse_call (sets := []) (by omega) (by decide) (by decide) (by decide) (by decide)
theorem lvp1 : CallF Tryz.prog 32 [sbytes [97, 40, 98, 124, 99, 41, 42], letters abcL, .sl []] (.p (.tup [rx xL, int (-1)])) := by
  have h := lvp (s := [97, 40, 98, 124, 99, 41, 42]) (by decide)
  rw [liv1] at h; exact h
theorem lvp2 : CallF Tryz.prog 32 [sbytes [97, 41], letters abcL, .sl []] (.p (.tup [rx (parseP abcL [] [97, 41]).1, int 1])) := by
  have h := lvp (s := [97, 41]) (by decide)
  rw [liv2] at h; exact h
theorem lvp3 : CallF Tryz.prog 32 [sbytes [40, 97], letters abcL, .sl []] (.p (.tup [rx (parseP abcL [] [40, 97]).1, int 2])) := by
  have h := lvp (s := [40, 97]) (by decide)
  rw [liv3] at h; exact h
theorem lvp4 : CallF Tryz.prog 32 [sbytes [97, 42, 98, 124, 42], letters abcL, .sl []] (.p (.tup [rx (parseP abcL [] [97, 42, 98, 124, 42]).1, int 4])) := by
  have h := lvp (s := [97, 42, 98, 124, 42]) (by decide)
  rw [liv4] at h; exact h
theorem lv_print : CallW Tryz.prog 35 [rx xL, letters abcL] (.p (sbytes [97, 40, 98, 124, 99, 41, 42])) := by
  have h := print_call (a := abcL) (r := xL) (by decide) (by decide) (by decide)
  rw [liv5] at h; exact h
theorem lv_d0 : CallN Tryz.prog 24 [rx xL, int 0] (.p (rx restL)) := by
  have h := Derive_call (r := xL) (a := 0) (by decide) (by decide +kernel)
  rw [liv6] at h; exact h
theorem lv_d1 : CallN Tryz.prog 24 [rx xL, int 1] (.p (rx noneRx)) := by
  have h := Derive_call (r := xL) (a := 1) (by decide) (by decide +kernel)
  rw [liv7] at h; exact h
theorem lv_s : CallF Tryz.prog 19 [rx (.mk 4 [] [emptyRx, restL])] (.p (rx restL)) := by
  have h := simS_call (r := .mk 4 [] [emptyRx, restL]) (by decide)
  rw [liv8] at h; exact h
theorem lv_r : CallF Tryz.prog 21 [rx xL] (.p (rx zL)) := by
  have h := revS_call (r := xL) (by decide)
  rw [liv9] at h; exact h
theorem lv_m1 : CallF Tryz.prog 28 [rx xL, ints [0, 1, 2, 1]] (.p (bool true)) := by
  have h := match_call (r := xL) (w := [0, 1, 2, 1]) (by decide) (by decide) (by decide +kernel)
  rw [liv10] at h; exact h
theorem lv_m2 : CallF Tryz.prog 28 [rx xL, ints [1]] (.p (bool false)) := by
  have h := match_call (r := xL) (w := [1]) (by decide) (by decide) (by decide +kernel)
  rw [liv11] at h; exact h
theorem fn23 : Fn1 Tryz.prog 23 Tryz.f23.ntmps 0 (Tryz.f23.body.getD .skip) := ⟨Tryz.f23, Tryz.func23, rfl, rfl, rfl, by kernel_rfl⟩
set_option maxRecDepth 100000 in
set_option maxHeartbeats 8000000 in
theorem lives_call : CallW Tryz.prog 23 [] (.p (bool true)) := by
  refine callW_of_code fn23 (Nat.le_of_ble_eq_true rfl) fun w0 M0 hM0 hdr => ?_
  refine code_seq ?_
  refine code_ops _ rfl ?_
  refine ol_pure rfl rfl rfl (pure_assign rfl rfl) ?_
  refine ol_nil ?_
  refine spk 123 [] [] rfl rfl rfl ?_
  refine code_seq ?_
  refine code_ops _ rfl ?_
  refine ol_pure rfl rfl rfl (pure_call rfl rfl rfl (abc_call) hM0) ?_
  refine ol_pure rfl rfl rfl (pure_assign rfl rfl) ?_
  refine ol_nil ?_
  refine spk 123 [(1,_)] [] rfl rfl rfl ?_
  refine code_seq ?_
  refine code_ops _ rfl ?_
  refine ol_pure rfl rfl rfl (pure_move rfl rfl) ?_
  refine ol_pure rfl rfl rfl (pure_call rfl rfl rfl (lvp1) hM0) ?_
  refine ol_pure rfl rfl rfl (pure_move rfl rfl) ?_
  refine ol_pure rfl rfl rfl (pure_extract rfl rfl rfl) ?_
  refine ol_pure rfl rfl rfl (pure_extract rfl rfl rfl) ?_
  refine ol_step rfl (step_alloc rfl rfl rfl rfl rfl ze25 rfl hM0) ?_
  refine ol_step rfl (step_store_box rfl rfl rfl sz25 rfl rfl rfl rfl (by decide) rfl rfl hM0) ?_
  refine ol_pure rfl rfl rfl (pure_assign rfl rfl) ?_
  refine ol_nil ?_
  refine spk 123 [(1,_),(2,_),(3,_)] [(2,_)] rfl rfl rfl ?_
  refine code_seq ?_
  refine code_ops _ rfl ?_
  refine ol_pure rfl rfl rfl (pure_lit rfl Tryz.underlying22 el3 rfl rfl rfl rfl hM0) ?_
  refine ol_pure rfl rfl rfl (pure_callN rfl rfl rfl rfl (one_call [1, 2]) hM0) ?_
  refine ol_pure rfl rfl rfl (pure_lit rfl Tryz.underlying23 el25 rfl rfl rfl rfl hM0) ?_
  refine ol_pure rfl rfl rfl (pure_callN rfl rfl rfl rfl (of_call 5 [oneR [1, 2]]) hM0) ?_
  refine ol_step rfl (step_alloc rfl rfl rfl rfl rfl ze25 rfl hM0) ?_
  refine ol_step rfl (step_store_box rfl rfl rfl sz25 rfl rfl rfl rfl (by decide) rfl rfl hM0) ?_
  refine ol_nil ?_
  refine spk 123 [(1,_),(2,_),(3,_),(4,_)] [(2,_),(4,_)] rfl rfl rfl ?_
  refine code_seq ?_
  refine code_seq ?_
  refine code_draw mixed (by kernel_rfl) _ rfl ?_
  refine dl_pure rfl rfl rfl (pure_move rfl rfl) ?_
  refine dl_pure rfl rfl rfl (pure_to (b' := false) (pure_neq rfl rfl rfl) (by decide)) ?_
  refine dl_pure rfl rfl rfl (pure_move rfl rfl) ?_
  refine dl_pure_g rfl rfl rfl rfl rfl (pure_load_box_agg rfl ag25 sz25 rfl rfl rfl rfl) ?_
  refine dl_pure_g rfl rfl rfl rfl rfl (pure_lit rfl Tryz.underlying22 el3 rfl rfl rfl rfl hM0) ?_
  refine dl_pure_g rfl rfl rfl rfl rfl (pure_callN rfl rfl rfl rfl (one_call [0]) hM0) ?_
  refine dl_pure_g rfl rfl rfl rfl rfl (pure_load_box_agg rfl ag25 sz25 rfl rfl rfl rfl) ?_
  refine dpk 123 [(1,_),(2,_),(4,_),(25,_),(26,_),(28,_),(29,_)] [(2,_),(4,_)] rfl rfl rfl ?_
  refine dl_pure_g rfl rfl rfl rfl rfl (pure_lit rfl Tryz.underlying23 el25 rfl rfl rfl rfl hM0) ?_
  refine dl_pure_g rfl rfl rfl rfl rfl (pure_callN rfl rfl rfl rfl (of_call 3 [oneR [0], restL]) hM0) ?_
  refine dl_pure_g rfl rfl rfl rfl rfl (pure_callb (b' := true) rfl rfl rfl (same_call (a := xL) (b := xL) (by decide) (by decide)) hM0 (by kernel_rfl)) ?_
  refine dl_pure_g rfl rfl rfl rfl rfl (pure_not rfl rfl) ?_
  refine dl_pure rfl rfl rfl (pure_pick_f rfl rfl rfl rfl) ?_
  refine dl_nil ?_
  refine spk 123 [(1,_),(2,_),(4,_),(34,_)] [(2,_),(4,_)] rfl rfl rfl ?_
  refine code_cond_f rfl ?_
  refine code_skip ?_
  refine spk 123 [(1,_),(2,_),(4,_)] [(2,_),(4,_)] rfl rfl rfl ?_
  refine code_seq ?_
  refine code_ops _ rfl ?_
  refine ol_pure rfl rfl rfl (pure_move rfl rfl) ?_
  refine ol_pure rfl rfl rfl (pure_call rfl rfl rfl (lvp2) hM0) ?_
  refine ol_pure rfl rfl rfl (pure_move rfl rfl) ?_
  refine ol_pure rfl rfl rfl (pure_extract rfl rfl rfl) ?_
  refine ol_pure rfl rfl rfl (pure_extract rfl rfl rfl) ?_
  refine ol_step rfl (step_alloc rfl rfl rfl rfl rfl ze25 rfl hM0) ?_
  refine ol_step rfl (step_store_box rfl rfl rfl sz25 rfl rfl rfl rfl (by decide) rfl rfl hM0) ?_
  refine ol_pure rfl rfl rfl (pure_assign rfl rfl) ?_
  refine ol_nil ?_
  refine spk 123 [(1,_),(2,_),(4,_),(6,_)] [(2,_),(4,_)] rfl rfl rfl ?_
  refine code_seq ?_
  refine code_ops _ rfl ?_
  refine ol_pure rfl rfl rfl (pure_move rfl rfl) ?_
  refine ol_pure rfl rfl rfl (pure_call rfl rfl rfl (lvp3) hM0) ?_
  refine ol_pure rfl rfl rfl (pure_move rfl rfl) ?_
  refine ol_pure rfl rfl rfl (pure_extract rfl rfl rfl) ?_
  refine ol_pure rfl rfl rfl (pure_extract rfl rfl rfl) ?_
  refine ol_step rfl (step_alloc rfl rfl rfl rfl rfl ze25 rfl hM0) ?_
  refine ol_step rfl (step_store_box rfl rfl rfl sz25 rfl rfl rfl rfl (by decide) rfl rfl hM0) ?_
  refine ol_pure rfl rfl rfl (pure_assign rfl rfl) ?_
  refine ol_nil ?_
  refine spk 123 [(1,_),(2,_),(4,_),(6,_),(8,_)] [(2,_),(4,_)] rfl rfl rfl ?_
  refine code_seq ?_
  refine code_ops _ rfl ?_
  refine ol_pure rfl rfl rfl (pure_move rfl rfl) ?_
  refine ol_pure rfl rfl rfl (pure_call rfl rfl rfl (lvp4) hM0) ?_
  refine ol_pure rfl rfl rfl (pure_move rfl rfl) ?_
  refine ol_pure rfl rfl rfl (pure_extract rfl rfl rfl) ?_
  refine ol_pure rfl rfl rfl (pure_extract rfl rfl rfl) ?_
  refine ol_step rfl (step_alloc rfl rfl rfl rfl rfl ze25 rfl hM0) ?_
  refine ol_step rfl (step_store_box rfl rfl rfl sz25 rfl rfl rfl rfl (by decide) rfl rfl hM0) ?_
  refine ol_pure rfl rfl rfl (pure_assign rfl rfl) ?_
  refine ol_nil ?_
  refine spk 123 [(1,_),(2,_),(4,_),(6,_),(8,_),(10,_)] [(2,_),(4,_)] rfl rfl rfl ?_
  refine code_seq ?_
  refine code_seq ?_
  refine code_ops _ rfl ?_
  refine ol_pure rfl rfl rfl (pure_move rfl rfl) ?_
  refine ol_pure rfl rfl rfl (pure_to (b' := false) (pure_neq rfl rfl rfl) (by decide)) ?_
  refine ol_pure rfl rfl rfl (pure_move rfl rfl) ?_
  refine ol_pure_g rfl rfl rfl rfl rfl (pure_move rfl rfl) ?_
  refine ol_pure_g rfl rfl rfl rfl rfl (pure_to (b' := false) (pure_neq rfl rfl rfl) (by decide)) ?_
  refine ol_pure rfl rfl rfl (pure_pick_f rfl rfl rfl rfl) ?_
  refine ol_pure rfl rfl rfl (pure_move rfl rfl) ?_
  refine opk 123 [(1,_),(2,_),(4,_),(10,_),(56,_)] [(2,_),(4,_)] rfl rfl rfl ?_
  refine ol_pure_g rfl rfl rfl rfl rfl (pure_move rfl rfl) ?_
  refine ol_pure_g rfl rfl rfl rfl rfl (pure_to (b' := false) (pure_neq rfl rfl rfl) (by decide)) ?_
  refine ol_pure rfl rfl rfl (pure_pick_f rfl rfl rfl rfl) ?_
  refine ol_pure rfl rfl rfl (pure_move rfl rfl) ?_
  refine ol_pure_g rfl rfl rfl rfl rfl (pure_load_box_agg rfl ag25 sz25 rfl rfl rfl rfl) ?_
  refine ol_pure_g rfl rfl rfl rfl rfl (pure_move rfl rfl) ?_
  refine ol_pure_g rfl rfl rfl rfl rfl (pure_callW hdr rfl rfl rfl (lv_print) hM0) ?_
  refine opk 123 [(2,_),(4,_),(60,_),(63,_)] [(2,_),(4,_)] rfl rfl rfl ?_
  refine ol_pure_g rfl rfl rfl rfl rfl (pure_to (b' := false) (pure_sneq rfl rfl rfl) (by decide)) ?_
  refine ol_pure rfl rfl rfl (pure_pick_f rfl rfl rfl rfl) ?_
  refine ol_pure rfl rfl rfl (pure_move rfl rfl) ?_
  refine ol_pure_g rfl rfl rfl rfl rfl (pure_load_box_agg rfl ag25 sz25 rfl rfl rfl rfl) ?_
  refine ol_pure_g rfl rfl rfl rfl rfl (pure_callb (b' := true) rfl rfl rfl (valid_call _ xL (Nat.le_refl _) (by decide)) hM0 (liv12)) ?_
  refine ol_pure_g rfl rfl rfl rfl rfl (pure_not rfl rfl) ?_
  refine ol_pure rfl rfl rfl (pure_pick_f rfl rfl rfl rfl) ?_
  refine opk 123 [(2,_),(4,_),(70,_)] [(2,_),(4,_)] rfl rfl rfl ?_
  refine ol_pure rfl rfl rfl (pure_move rfl rfl) ?_
  refine ol_pure_g rfl rfl rfl rfl rfl (pure_load_box_agg rfl ag25 sz25 rfl rfl rfl rfl) ?_
  refine ol_pure_g rfl rfl rfl rfl rfl (pure_callb (b' := false) rfl rfl rfl (Empty_call (r := xL) (by decide)) hM0 (by kernel_rfl)) ?_
  refine ol_pure rfl rfl rfl (pure_pick_f rfl rfl rfl rfl) ?_
  refine ol_pure rfl rfl rfl (pure_move rfl rfl) ?_
  refine ol_pure_g rfl rfl rfl rfl rfl (pure_load_box_agg rfl ag25 sz25 rfl rfl rfl rfl) ?_
  refine ol_pure_g rfl rfl rfl rfl rfl (pure_callb (b' := true) rfl rfl rfl (Empty_call (r := restL) (by decide)) hM0 (by kernel_rfl)) ?_
  refine ol_pure_g rfl rfl rfl rfl rfl (pure_not rfl rfl) ?_
  refine ol_pure rfl rfl rfl (pure_pick_f rfl rfl rfl rfl) ?_
  refine ol_nil ?_
  refine spk 123 [(2,_),(4,_),(79,_)] [(2,_),(4,_)] rfl rfl rfl ?_
  refine code_cond_f rfl ?_
  refine code_skip ?_
  refine spk 123 [(2,_),(4,_)] [(2,_),(4,_)] rfl rfl rfl ?_
  refine code_seq ?_
  refine code_seq ?_
  refine code_draw mixed (by kernel_rfl) _ rfl ?_
  refine dl_pure rfl rfl rfl (pure_load_box_agg rfl ag25 sz25 rfl rfl rfl rfl) ?_
  refine dl_pure rfl rfl rfl (pure_callN rfl rfl rfl rfl (lv_d0) hM0) ?_
  refine dl_pure rfl rfl rfl (pure_load_box_agg rfl ag25 sz25 rfl rfl rfl rfl) ?_
  refine dl_pure rfl rfl rfl (pure_callb (b' := true) rfl rfl rfl (same_call (a := restL) (b := restL) (by decide) (by decide)) hM0 (by kernel_rfl)) ?_
  refine dl_pure rfl rfl rfl (pure_not rfl rfl) ?_
  refine dl_pure rfl rfl rfl (pure_move rfl rfl) ?_
  refine dl_pure_g rfl rfl rfl rfl rfl (pure_load_box_agg rfl ag25 sz25 rfl rfl rfl rfl) ?_
  refine dpk 123 [(2,_),(4,_),(85,_),(86,_)] [(2,_),(4,_)] rfl rfl rfl ?_
  refine dl_pure_g rfl rfl rfl rfl rfl (pure_callN rfl rfl rfl rfl (lv_d1) hM0) ?_
  refine dl_pure_g rfl rfl rfl rfl rfl (pure_fieldv rfl fd25_0 rfl rfl) ?_
  refine dl_pure_g rfl rfl rfl rfl rfl (pure_to (b' := false) (pure_neq rfl rfl rfl) (by decide)) ?_
  refine dl_pure rfl rfl rfl (pure_pick_f rfl rfl rfl rfl) ?_
  refine dl_nil ?_
  refine spk 123 [(2,_),(4,_),(90,_)] [(2,_),(4,_)] rfl rfl rfl ?_
  refine code_cond_f rfl ?_
  refine code_skip ?_
  refine spk 123 [(2,_),(4,_)] [(2,_),(4,_)] rfl rfl rfl ?_
  refine code_seq ?_
  refine code_ops _ rfl ?_
  refine ol_pure rfl rfl rfl (pure_norm (pure_build rfl pl25 ze25 rfl rfl rfl) rfl) ?_
  refine ol_pure rfl rfl rfl (pure_load_box_agg rfl ag25 sz25 rfl rfl rfl rfl) ?_
  refine ol_pure rfl rfl rfl (pure_lit rfl Tryz.underlying23 el25 rfl rfl rfl rfl hM0) ?_
  refine ol_pure rfl rfl rfl (pure_callN rfl rfl rfl rfl (of_call 4 [emptyRx, restL]) hM0) ?_
  refine ol_pure rfl rfl rfl (pure_call rfl rfl rfl (lv_s) hM0) ?_
  refine ol_step rfl (step_alloc rfl rfl rfl rfl rfl ze25 rfl hM0) ?_
  refine ol_step rfl (step_store_box rfl rfl rfl sz25 rfl rfl rfl rfl (by decide) rfl rfl hM0) ?_
  refine ol_nil ?_
  refine spk 123 [(2,_),(4,_),(11,_)] [(2,_),(4,_),(11,_)] rfl rfl rfl ?_
  refine code_seq ?_
  refine code_ops _ rfl ?_
  refine ol_pure rfl rfl rfl (pure_load_box_agg rfl ag25 sz25 rfl rfl rfl rfl) ?_
  refine ol_pure rfl rfl rfl (pure_call rfl rfl rfl (lv_r) hM0) ?_
  refine ol_step rfl (step_alloc rfl rfl rfl rfl rfl ze25 rfl hM0) ?_
  refine ol_step rfl (step_store_box rfl rfl rfl sz25 rfl rfl rfl rfl (by decide) rfl rfl hM0) ?_
  refine ol_nil ?_
  refine spk 123 [(2,_),(4,_),(11,_),(12,_)] [(2,_),(4,_),(11,_),(12,_)] rfl rfl rfl ?_
  refine code_seq ?_
  refine code_ops _ rfl ?_
  refine ol_pure rfl rfl rfl (pure_load_box_agg rfl ag25 sz25 rfl rfl rfl rfl) ?_
  refine ol_pure rfl rfl rfl (pure_load_box_agg rfl ag25 sz25 rfl rfl rfl rfl) ?_
  refine ol_pure rfl rfl rfl (pure_callb (b' := true) rfl rfl rfl (same_call (a := restL) (b := restL) (by decide) (by decide)) hM0 (by kernel_rfl)) ?_
  refine ol_pure rfl rfl rfl (pure_move rfl rfl) ?_
  refine ol_pure_g rfl rfl rfl rfl rfl (pure_load_box_agg rfl ag25 sz25 rfl rfl rfl rfl) ?_
  refine ol_pure_g rfl rfl rfl rfl rfl (pure_lit rfl Tryz.underlying22 el3 rfl rfl rfl rfl hM0) ?_
  refine ol_pure_g rfl rfl rfl rfl rfl (pure_callb (b' := true) rfl rfl rfl (lv_m1) hM0 (rfl)) ?_
  refine opk 123 [(2,_),(12,_),(101,_),(104,_)] [(2,_),(12,_)] rfl rfl rfl ?_
  refine ol_pure rfl rfl rfl (pure_pick_t rfl rfl rfl rfl) ?_
  refine ol_pure rfl rfl rfl (pure_move rfl rfl) ?_
  refine ol_pure_g rfl rfl rfl rfl rfl (pure_load_box_agg rfl ag25 sz25 rfl rfl rfl rfl) ?_
  refine ol_pure_g rfl rfl rfl rfl rfl (pure_lit rfl Tryz.underlying22 el3 rfl rfl rfl rfl hM0) ?_
  refine ol_pure_g rfl rfl rfl rfl rfl (pure_callb (b' := false) rfl rfl rfl (lv_m2) hM0 (rfl)) ?_
  refine ol_pure_g rfl rfl rfl rfl rfl (pure_not rfl rfl) ?_
  refine ol_pure rfl rfl rfl (pure_pick_t rfl rfl rfl rfl) ?_
  refine opk 123 [(12,_),(111,_)] [(12,_)] rfl rfl rfl ?_
  refine ol_pure rfl rfl rfl (pure_move rfl rfl) ?_
  refine ol_pure_g rfl rfl rfl rfl rfl (pure_field_box rfl fd25_0 rfl rfl) ?_
  refine ol_pure_g rfl rfl rfl rfl rfl (pure_load_box rfl ag3 rfl rfl rfl) ?_
  refine ol_pure_g rfl rfl rfl rfl rfl (pure_to (b' := true) (pure_eql rfl rfl rfl) (by decide)) ?_
  refine ol_pure rfl rfl rfl (pure_pick_t rfl rfl rfl rfl) ?_
  refine ol_pure rfl rfl rfl (pure_move rfl rfl) ?_
  refine ol_pure_g rfl rfl rfl rfl rfl (pure_field_box rfl fd25_2 rfl rfl) ?_
  refine opk 123 [(117,_),(118,_)] [(12,_)] rfl rfl rfl ?_
  refine ol_pure_g rfl rfl rfl rfl rfl (pure_load_box rfl ag23 rfl rfl rfl) ?_
  refine ol_pure_g rfl rfl rfl rfl rfl (pure_len rfl Tryz.underlying23 rfl) ?_
  refine ol_pure_g rfl rfl rfl rfl rfl (pure_to (b' := true) (pure_eql rfl rfl rfl) (by decide)) ?_
  refine ol_pure rfl rfl rfl (pure_pick_t rfl rfl rfl rfl) ?_
  refine ol_pure rfl rfl rfl (pure_assign rfl rfl) ?_
  refine ol_nil ?_
  refine spk 123 [(0,_)] [] rfl rfl rfl ?_
  refine code_ret ?_
  refine end_ret rfl ?_
  rfl
end Go.Proofs.YtgdehkimfmfofaaGreat

namespace Go.Proofs.YtgdehkimfmfofaaGreat
open Go.Am Go.Wb Go.Wc
set_option linter.unusedVariables false
set_option linter.unusedSimpArgs false
theorem same_eq {a b : Rx} (h : a = b) : decide (cmpR a b = 0) = true := by rw [h, cmpR_self]; rfl
theorem size_revR (r : Rx) : (revR r).size ≤ 2 * r.size := by
  unfold revR; split
  · exact size_build true r
  · rw [show (noneRx).size = 1 from rfl]; have := size_pos r; omega
theorem fn12 : FnC Tryz.prog 12 Tryz.f12.ntmps 2 25 3 (Tryz.f12.body.getD .skip) := ⟨Tryz.f12, Tryz.func12, rfl, rfl, rfl, by kernel_rfl, ag25, sz25⟩
set_option maxRecDepth 100000 in
theorem regex_call {l : List Int} (h64 : I64s l) (hl : l.length ≤ 9223372036854775807) : CallF Tryz.prog 12 [ints l] (.p (rx (shapedP l 3))) := by
  refine callF_of_codeC fn12 (Nat.le_of_ble_eq_true rfl) fun w0 M0 hM0 => ?_
  refine code_seq ?_
  refine code_ops _ rfl ?_
  refine ol_step rfl (step_alloc rfl rfl rfl rfl rfl ze25 rfl hM0) ?_
  refine ol_nil ?_
  refine spk 5 [(0,_),(2,_)] [(2,_)] rfl rfl rfl ?_
  refine code_seq ?_
  refine code_ops _ rfl ?_
  refine ol_pure rfl rfl rfl (pure_move rfl rfl) ?_
  refine ol_pure rfl rfl rfl (pure_call rfl rfl rfl (shaped_call h64 (by decide) (by decide) hl) hM0) ?_
  refine ol_step rfl (step_store_box rfl rfl rfl sz25 rfl rfl rfl rfl (by decide) rfl rfl hM0) ?_
  refine ol_nil ?_
  refine spk 5 [(2,_)] [(2,_)] rfl rfl rfl ?_
  refine code_ret ?_
  refine endC_ret rfl ?_
  rfl
theorem fn10 : Fn1 Tryz.prog 10 Tryz.f10.ntmps 4 (Tryz.f10.body.getD .skip) := ⟨Tryz.f10, Tryz.func10, rfl, rfl, rfl, by kernel_rfl⟩
set_option maxRecDepth 100000 in
set_option maxHeartbeats 8000000 in
theorem normal_law {l : List Int} {s : Int} (hl : l.length ≤ 9223372036854775807) (h64 : I64s l) (hs : I64 s) : CallW Tryz.prog 10 [ints l, int s] (.p (bool true)) := by
  obtain ⟨hx, hx2⟩ := shaped_good l (show (0 : Int) < 3 ∧ (3 : Int) ≤ 64 by decide)
  have h1 := size_simR (shapedP l 3)
  have h2 : dSz (simR (shapedP l 3)) ≤ 4 * (98 * 98) := dSz_bd (by omega)
  have h3 := size_revR (shapedP l 3)
  have h4 : (dR (symP s) (simR (shapedP l 3))).size ≤ dSz (simR (shapedP l 3)) := dSz_spec _ _
  have h5 := size_simR (simR (shapedP l 3))
  have h6 := size_simR (dR (symP s) (simR (shapedP l 3)))
  have h7 := size_simR (revR (shapedP l 3))
  have h8 := size_revR (revR (shapedP l 3))
  refine callW_of_code fn10 (Nat.le_of_ble_eq_true rfl) fun w0 M0 hM0 hdr => ?_
  refine code_seq ?_
  refine code_ops _ rfl ?_
  refine ol_pure rfl rfl rfl (pure_assign rfl rfl) ?_
  refine ol_nil ?_
  refine spk 56 [(0,_),(1,_)] [] rfl rfl rfl ?_
  refine code_seq ?_
  refine code_ops _ rfl ?_
  refine ol_pure rfl rfl rfl (pure_move rfl rfl) ?_
  refine ol_pure rfl rfl rfl (pure_call rfl rfl rfl (regex_call h64 hl) hM0) ?_
  refine ol_step rfl (step_alloc rfl rfl rfl rfl rfl ze25 rfl hM0) ?_
  refine ol_step rfl (step_store_box rfl rfl rfl sz25 rfl rfl rfl rfl (by decide) rfl rfl hM0) ?_
  refine ol_nil ?_
  refine spk 56 [(1,_),(5,_)] [(5,_)] rfl rfl rfl ?_
  refine code_seq ?_
  refine code_ops _ rfl ?_
  refine ol_pure rfl rfl rfl (pure_load_box_agg rfl ag25 sz25 rfl rfl rfl rfl) ?_
  refine ol_pure rfl rfl rfl (pure_call rfl rfl rfl (simS_call (by omega)) hM0) ?_
  refine ol_step rfl (step_alloc rfl rfl rfl rfl rfl ze25 rfl hM0) ?_
  refine ol_step rfl (step_store_box rfl rfl rfl sz25 rfl rfl rfl rfl (by decide) rfl rfl hM0) ?_
  refine ol_nil ?_
  refine spk 56 [(1,_),(5,_),(6,_)] [(5,_),(6,_)] rfl rfl rfl ?_
  refine code_cut (fun zs => zs = ⟨56, [(5, .pbox 5 0), (6, .pbox 6 0), (7, .pbox 7 0)], [(5, .box 25 [.v .pl (int ((shapedP l 3)).kind), .v .pl (ints ((shapedP l 3)).syms), .v .pl (.sl (Rx.avs ((shapedP l 3)).kids))]), (6, .box 25 [.v .pl (int ((simR (shapedP l 3))).kind), .v .pl (ints ((simR (shapedP l 3))).syms), .v .pl (.sl (Rx.avs ((simR (shapedP l 3))).kids))]), (7, .box 25 [.v .pl (int ((dR (symP s) (simR (shapedP l 3)))).kind), .v .pl (ints ((dR (symP s) (simR (shapedP l 3)))).syms), .v .pl (.sl (Rx.avs ((dR (symP s) (simR (shapedP l 3)))).kids))])]⟩) ?_ ?_
  ·skip
   refine code_draw mixed (by kernel_rfl) _ rfl ?_
   refine dl_ends (by kernel_rfl) (endL_of (n := 6) (by kernel_rfl) ?_)
   refine ex_three (i := 0) (j := 1) (k := 4) (by kernel_rfl) rfl rfl rfl rfl rfl rfl (st_pure rfl rfl (pure_load_box_agg rfl ag25 sz25 rfl rfl rfl rfl)) (st_pure rfl rfl (pure_move rfl rfl)) (step_alloc rfl rfl rfl rfl rfl ze25 rfl hM0) ?_ ?_ ?_
   ·skip
    refine ex_two (i := 1) (j := 4) (by kernel_rfl) rfl rfl rfl rfl (st_pure rfl rfl (pure_move rfl rfl)) (step_alloc rfl rfl rfl rfl rfl ze25 rfl hM0) ?_ ?_
    ·skip
     refine ex_two (i := 2) (j := 4) (by kernel_rfl) rfl rfl rfl rfl (st_pure rfl rfl (pure_call rfl rfl rfl (symbol_call hs) hM0)) (step_alloc rfl rfl rfl rfl rfl ze25 rfl hM0) ?_ ?_
     ·skip
      refine ex_two (i := 3) (j := 4) (by kernel_rfl) rfl rfl rfl rfl (st_pure rfl rfl (pure_callN rfl rfl rfl rfl (Derive_call (r := (shapedP l 3)) (a := symP s) (by omega) (by omega)) hM0)) (step_alloc rfl rfl rfl rfl rfl ze25 rfl hM0) ?_ ?_
      ·skip
       refine ex_one (i := 4) (by kernel_rfl) rfl rfl (step_alloc rfl rfl rfl rfl rfl ze25 rfl hM0) ?_
       refine ex_one (i := 5) (by kernel_rfl) rfl rfl (step_store_box rfl rfl rfl sz25 rfl rfl rfl rfl (by decide) rfl rfl hM0) ?_
       refine ex_end (by kernel_rfl) ?_
       refine cut_next (n := 56) (l := [(5, _), (6, _), (7, _)]) (o' := [(5, _), (6, _), (7, _)]) rfl ⟨rfl, rfl, rfl, trivial⟩ ⟨rfl, rfl, rfl, trivial⟩ ?_
       exact rfl
      ·skip
       refine ex_one (i := 3) (by kernel_rfl) rfl rfl (st_pure rfl rfl (pure_callN rfl rfl rfl rfl (Derive_call (r := (shapedP l 3)) (a := symP s) (by omega) (by omega)) hM0)) ?_
       refine ex_one (i := 5) (by kernel_rfl) rfl rfl (step_store_box rfl rfl rfl sz25 rfl rfl rfl rfl (by decide) rfl rfl hM0) ?_
       refine ex_end (by kernel_rfl) ?_
       refine cut_next (n := 56) (l := [(5, _), (6, _), (7, _)]) (o' := [(5, _), (6, _), (7, _)]) rfl ⟨rfl, rfl, rfl, trivial⟩ ⟨rfl, rfl, rfl, trivial⟩ ?_
       exact rfl
     ·skip
      refine ex_one (i := 2) (by kernel_rfl) rfl rfl (st_pure rfl rfl (pure_call rfl rfl rfl (symbol_call hs) hM0)) ?_
      refine ex_one (i := 3) (by kernel_rfl) rfl rfl (st_pure rfl rfl (pure_callN rfl rfl rfl rfl (Derive_call (r := (shapedP l 3)) (a := symP s) (by omega) (by omega)) hM0)) ?_
      refine ex_one (i := 5) (by kernel_rfl) rfl rfl (step_store_box rfl rfl rfl sz25 rfl rfl rfl rfl (by decide) rfl rfl hM0) ?_
      refine ex_end (by kernel_rfl) ?_
      refine cut_next (n := 56) (l := [(5, _), (6, _), (7, _)]) (o' := [(5, _), (6, _), (7, _)]) rfl ⟨rfl, rfl, rfl, trivial⟩ ⟨rfl, rfl, rfl, trivial⟩ ?_
      exact rfl
    ·skip
     refine ex_one (i := 1) (by kernel_rfl) rfl rfl (st_pure rfl rfl (pure_move rfl rfl)) ?_
     refine ex_one (i := 2) (by kernel_rfl) rfl rfl (st_pure rfl rfl (pure_call rfl rfl rfl (symbol_call hs) hM0)) ?_
     refine ex_one (i := 3) (by kernel_rfl) rfl rfl (st_pure rfl rfl (pure_callN rfl rfl rfl rfl (Derive_call (r := (shapedP l 3)) (a := symP s) (by omega) (by omega)) hM0)) ?_
     refine ex_one (i := 5) (by kernel_rfl) rfl rfl (step_store_box rfl rfl rfl sz25 rfl rfl rfl rfl (by decide) rfl rfl hM0) ?_
     refine ex_end (by kernel_rfl) ?_
     refine cut_next (n := 56) (l := [(5, _), (6, _), (7, _)]) (o' := [(5, _), (6, _), (7, _)]) rfl ⟨rfl, rfl, rfl, trivial⟩ ⟨rfl, rfl, rfl, trivial⟩ ?_
     exact rfl
   ·skip
    refine ex_three (i := 0) (j := 2) (k := 4) (by kernel_rfl) rfl rfl rfl rfl rfl rfl (st_pure rfl rfl (pure_load_box_agg rfl ag25 sz25 rfl rfl rfl rfl)) (st_pure rfl rfl (pure_call rfl rfl rfl (symbol_call hs) hM0)) (step_alloc rfl rfl rfl rfl rfl ze25 rfl hM0) ?_ ?_ ?_
    ·skip
     refine ex_two (i := 2) (j := 4) (by kernel_rfl) rfl rfl rfl rfl (st_pure rfl rfl (pure_call rfl rfl rfl (symbol_call hs) hM0)) (step_alloc rfl rfl rfl rfl rfl ze25 rfl hM0) ?_ ?_
     ·skip
      refine ex_two (i := 3) (j := 4) (by kernel_rfl) rfl rfl rfl rfl (st_pure rfl rfl (pure_callN rfl rfl rfl rfl (Derive_call (r := (shapedP l 3)) (a := symP s) (by omega) (by omega)) hM0)) (step_alloc rfl rfl rfl rfl rfl ze25 rfl hM0) ?_ ?_
      ·skip
       refine ex_one (i := 4) (by kernel_rfl) rfl rfl (step_alloc rfl rfl rfl rfl rfl ze25 rfl hM0) ?_
       refine ex_one (i := 5) (by kernel_rfl) rfl rfl (step_store_box rfl rfl rfl sz25 rfl rfl rfl rfl (by decide) rfl rfl hM0) ?_
       refine ex_end (by kernel_rfl) ?_
       refine cut_next (n := 56) (l := [(5, _), (6, _), (7, _)]) (o' := [(5, _), (6, _), (7, _)]) rfl ⟨rfl, rfl, rfl, trivial⟩ ⟨rfl, rfl, rfl, trivial⟩ ?_
       exact rfl
      ·skip
       refine ex_one (i := 3) (by kernel_rfl) rfl rfl (st_pure rfl rfl (pure_callN rfl rfl rfl rfl (Derive_call (r := (shapedP l 3)) (a := symP s) (by omega) (by omega)) hM0)) ?_
       refine ex_one (i := 5) (by kernel_rfl) rfl rfl (step_store_box rfl rfl rfl sz25 rfl rfl rfl rfl (by decide) rfl rfl hM0) ?_
       refine ex_end (by kernel_rfl) ?_
       refine cut_next (n := 56) (l := [(5, _), (6, _), (7, _)]) (o' := [(5, _), (6, _), (7, _)]) rfl ⟨rfl, rfl, rfl, trivial⟩ ⟨rfl, rfl, rfl, trivial⟩ ?_
       exact rfl
     ·skip
      refine ex_one (i := 2) (by kernel_rfl) rfl rfl (st_pure rfl rfl (pure_call rfl rfl rfl (symbol_call hs) hM0)) ?_
      refine ex_one (i := 3) (by kernel_rfl) rfl rfl (st_pure rfl rfl (pure_callN rfl rfl rfl rfl (Derive_call (r := (shapedP l 3)) (a := symP s) (by omega) (by omega)) hM0)) ?_
      refine ex_one (i := 5) (by kernel_rfl) rfl rfl (step_store_box rfl rfl rfl sz25 rfl rfl rfl rfl (by decide) rfl rfl hM0) ?_
      refine ex_end (by kernel_rfl) ?_
      refine cut_next (n := 56) (l := [(5, _), (6, _), (7, _)]) (o' := [(5, _), (6, _), (7, _)]) rfl ⟨rfl, rfl, rfl, trivial⟩ ⟨rfl, rfl, rfl, trivial⟩ ?_
      exact rfl
    ·skip
     refine ex_two (i := 0) (j := 4) (by kernel_rfl) rfl rfl rfl rfl (st_pure rfl rfl (pure_load_box_agg rfl ag25 sz25 rfl rfl rfl rfl)) (step_alloc rfl rfl rfl rfl rfl ze25 rfl hM0) ?_ ?_
     ·skip
      refine ex_two (i := 3) (j := 4) (by kernel_rfl) rfl rfl rfl rfl (st_pure rfl rfl (pure_callN rfl rfl rfl rfl (Derive_call (r := (shapedP l 3)) (a := symP s) (by omega) (by omega)) hM0)) (step_alloc rfl rfl rfl rfl rfl ze25 rfl hM0) ?_ ?_
      ·skip
       refine ex_one (i := 4) (by kernel_rfl) rfl rfl (step_alloc rfl rfl rfl rfl rfl ze25 rfl hM0) ?_
       refine ex_one (i := 5) (by kernel_rfl) rfl rfl (step_store_box rfl rfl rfl sz25 rfl rfl rfl rfl (by decide) rfl rfl hM0) ?_
       refine ex_end (by kernel_rfl) ?_
       refine cut_next (n := 56) (l := [(5, _), (6, _), (7, _)]) (o' := [(5, _), (6, _), (7, _)]) rfl ⟨rfl, rfl, rfl, trivial⟩ ⟨rfl, rfl, rfl, trivial⟩ ?_
       exact rfl
      ·skip
       refine ex_one (i := 3) (by kernel_rfl) rfl rfl (st_pure rfl rfl (pure_callN rfl rfl rfl rfl (Derive_call (r := (shapedP l 3)) (a := symP s) (by omega) (by omega)) hM0)) ?_
       refine ex_one (i := 5) (by kernel_rfl) rfl rfl (step_store_box rfl rfl rfl sz25 rfl rfl rfl rfl (by decide) rfl rfl hM0) ?_
       refine ex_end (by kernel_rfl) ?_
       refine cut_next (n := 56) (l := [(5, _), (6, _), (7, _)]) (o' := [(5, _), (6, _), (7, _)]) rfl ⟨rfl, rfl, rfl, trivial⟩ ⟨rfl, rfl, rfl, trivial⟩ ?_
       exact rfl
     ·skip
      refine ex_one (i := 0) (by kernel_rfl) rfl rfl (st_pure rfl rfl (pure_load_box_agg rfl ag25 sz25 rfl rfl rfl rfl)) ?_
      refine ex_one (i := 3) (by kernel_rfl) rfl rfl (st_pure rfl rfl (pure_callN rfl rfl rfl rfl (Derive_call (r := (shapedP l 3)) (a := symP s) (by omega) (by omega)) hM0)) ?_
      refine ex_one (i := 5) (by kernel_rfl) rfl rfl (step_store_box rfl rfl rfl sz25 rfl rfl rfl rfl (by decide) rfl rfl hM0) ?_
      refine ex_end (by kernel_rfl) ?_
      refine cut_next (n := 56) (l := [(5, _), (6, _), (7, _)]) (o' := [(5, _), (6, _), (7, _)]) rfl ⟨rfl, rfl, rfl, trivial⟩ ⟨rfl, rfl, rfl, trivial⟩ ?_
      exact rfl
    ·skip
     refine ex_two (i := 0) (j := 2) (by kernel_rfl) rfl rfl rfl rfl (st_pure rfl rfl (pure_load_box_agg rfl ag25 sz25 rfl rfl rfl rfl)) (st_pure rfl rfl (pure_call rfl rfl rfl (symbol_call hs) hM0)) ?_ ?_
     ·skip
      refine ex_one (i := 2) (by kernel_rfl) rfl rfl (st_pure rfl rfl (pure_call rfl rfl rfl (symbol_call hs) hM0)) ?_
      refine ex_one (i := 3) (by kernel_rfl) rfl rfl (st_pure rfl rfl (pure_callN rfl rfl rfl rfl (Derive_call (r := (shapedP l 3)) (a := symP s) (by omega) (by omega)) hM0)) ?_
      refine ex_one (i := 5) (by kernel_rfl) rfl rfl (step_store_box rfl rfl rfl sz25 rfl rfl rfl rfl (by decide) rfl rfl hM0) ?_
      refine ex_end (by kernel_rfl) ?_
      refine cut_next (n := 56) (l := [(5, _), (6, _), (7, _)]) (o' := [(5, _), (6, _), (7, _)]) rfl ⟨rfl, rfl, rfl, trivial⟩ ⟨rfl, rfl, rfl, trivial⟩ ?_
      exact rfl
     ·skip
      refine ex_one (i := 0) (by kernel_rfl) rfl rfl (st_pure rfl rfl (pure_load_box_agg rfl ag25 sz25 rfl rfl rfl rfl)) ?_
      refine ex_one (i := 3) (by kernel_rfl) rfl rfl (st_pure rfl rfl (pure_callN rfl rfl rfl rfl (Derive_call (r := (shapedP l 3)) (a := symP s) (by omega) (by omega)) hM0)) ?_
      refine ex_one (i := 5) (by kernel_rfl) rfl rfl (step_store_box rfl rfl rfl sz25 rfl rfl rfl rfl (by decide) rfl rfl hM0) ?_
      refine ex_end (by kernel_rfl) ?_
      refine cut_next (n := 56) (l := [(5, _), (6, _), (7, _)]) (o' := [(5, _), (6, _), (7, _)]) rfl ⟨rfl, rfl, rfl, trivial⟩ ⟨rfl, rfl, rfl, trivial⟩ ?_
      exact rfl
   ·skip
    refine ex_two (i := 0) (j := 1) (by kernel_rfl) rfl rfl rfl rfl (st_pure rfl rfl (pure_load_box_agg rfl ag25 sz25 rfl rfl rfl rfl)) (st_pure rfl rfl (pure_move rfl rfl)) ?_ ?_
    ·skip
     refine ex_one (i := 1) (by kernel_rfl) rfl rfl (st_pure rfl rfl (pure_move rfl rfl)) ?_
     refine ex_one (i := 2) (by kernel_rfl) rfl rfl (st_pure rfl rfl (pure_call rfl rfl rfl (symbol_call hs) hM0)) ?_
     refine ex_one (i := 3) (by kernel_rfl) rfl rfl (st_pure rfl rfl (pure_callN rfl rfl rfl rfl (Derive_call (r := (shapedP l 3)) (a := symP s) (by omega) (by omega)) hM0)) ?_
     refine ex_one (i := 5) (by kernel_rfl) rfl rfl (step_store_box rfl rfl rfl sz25 rfl rfl rfl rfl (by decide) rfl rfl hM0) ?_
     refine ex_end (by kernel_rfl) ?_
     refine cut_next (n := 56) (l := [(5, _), (6, _), (7, _)]) (o' := [(5, _), (6, _), (7, _)]) rfl ⟨rfl, rfl, rfl, trivial⟩ ⟨rfl, rfl, rfl, trivial⟩ ?_
     exact rfl
    ·skip
     refine ex_two (i := 0) (j := 2) (by kernel_rfl) rfl rfl rfl rfl (st_pure rfl rfl (pure_load_box_agg rfl ag25 sz25 rfl rfl rfl rfl)) (st_pure rfl rfl (pure_call rfl rfl rfl (symbol_call hs) hM0)) ?_ ?_
     ·skip
      refine ex_one (i := 2) (by kernel_rfl) rfl rfl (st_pure rfl rfl (pure_call rfl rfl rfl (symbol_call hs) hM0)) ?_
      refine ex_one (i := 3) (by kernel_rfl) rfl rfl (st_pure rfl rfl (pure_callN rfl rfl rfl rfl (Derive_call (r := (shapedP l 3)) (a := symP s) (by omega) (by omega)) hM0)) ?_
      refine ex_one (i := 5) (by kernel_rfl) rfl rfl (step_store_box rfl rfl rfl sz25 rfl rfl rfl rfl (by decide) rfl rfl hM0) ?_
      refine ex_end (by kernel_rfl) ?_
      refine cut_next (n := 56) (l := [(5, _), (6, _), (7, _)]) (o' := [(5, _), (6, _), (7, _)]) rfl ⟨rfl, rfl, rfl, trivial⟩ ⟨rfl, rfl, rfl, trivial⟩ ?_
      exact rfl
     ·skip
      refine ex_one (i := 0) (by kernel_rfl) rfl rfl (st_pure rfl rfl (pure_load_box_agg rfl ag25 sz25 rfl rfl rfl rfl)) ?_
      refine ex_one (i := 3) (by kernel_rfl) rfl rfl (st_pure rfl rfl (pure_callN rfl rfl rfl rfl (Derive_call (r := (shapedP l 3)) (a := symP s) (by omega) (by omega)) hM0)) ?_
      refine ex_one (i := 5) (by kernel_rfl) rfl rfl (step_store_box rfl rfl rfl sz25 rfl rfl rfl rfl (by decide) rfl rfl hM0) ?_
      refine ex_end (by kernel_rfl) ?_
      refine cut_next (n := 56) (l := [(5, _), (6, _), (7, _)]) (o' := [(5, _), (6, _), (7, _)]) rfl ⟨rfl, rfl, rfl, trivial⟩ ⟨rfl, rfl, rfl, trivial⟩ ?_
      exact rfl
  ·rintro zs ⟨rfl⟩
   refine code_seq ?_
   refine code_ops _ rfl ?_
   refine ol_pure rfl rfl rfl (pure_load_box_agg rfl ag25 sz25 rfl rfl rfl rfl) ?_
   refine ol_pure rfl rfl rfl (pure_call rfl rfl rfl (revS_call (by omega)) hM0) ?_
   refine ol_step rfl (step_alloc rfl rfl rfl rfl rfl ze25 rfl hM0) ?_
   refine ol_step rfl (step_store_box rfl rfl rfl sz25 rfl rfl rfl rfl (by decide) rfl rfl hM0) ?_
   refine ol_nil ?_
   refine spk 56 [(6,_),(7,_),(8,_)] [(6,_),(7,_),(8,_)] rfl rfl rfl ?_
   refine code_seq ?_
   refine code_draw mixed (by kernel_rfl) _ rfl ?_
   refine dl_pure rfl rfl rfl (pure_load_box_agg rfl ag25 sz25 rfl rfl rfl rfl) ?_
   refine dl_pure rfl rfl rfl (pure_call rfl rfl rfl (simS_call (by omega)) hM0) ?_
   refine dl_pure rfl rfl rfl (pure_load_box_agg rfl ag25 sz25 rfl rfl rfl rfl) ?_
   refine dl_pure rfl rfl rfl (pure_callb (b' := true) rfl rfl rfl (same_call (a := (simR (simR (shapedP l 3)))) (b := (simR (shapedP l 3))) (by omega) (by omega)) hM0 (same_eq (simR_id (simR_nf _)))) ?_
   refine dl_pure rfl rfl rfl (pure_move rfl rfl) ?_
   refine dl_pure_g rfl rfl rfl rfl rfl (pure_load_box_agg rfl ag25 sz25 rfl rfl rfl rfl) ?_
   refine dl_pure_g rfl rfl rfl rfl rfl (pure_call rfl rfl rfl (simS_call (by omega)) hM0) ?_
   refine dpk 56 [(6,_),(7,_),(8,_),(23,_),(25,_)] [(6,_),(7,_),(8,_)] rfl rfl rfl ?_
   refine dl_pure_g rfl rfl rfl rfl rfl (pure_load_box_agg rfl ag25 sz25 rfl rfl rfl rfl) ?_
   refine dl_pure_g rfl rfl rfl rfl rfl (pure_callb (b' := true) rfl rfl rfl (same_call (a := (simR (dR (symP s) (simR (shapedP l 3))))) (b := (dR (symP s) (simR (shapedP l 3)))) (by omega) (by omega)) hM0 (same_eq (simR_id (dR_nf _ (simR_nf _))))) ?_
   refine dl_pure rfl rfl rfl (pure_to (b' := true) (pure_pick_t rfl rfl rfl rfl) (by decide)) ?_
   refine dl_pure rfl rfl rfl (pure_move rfl rfl) ?_
   refine dl_pure_g rfl rfl rfl rfl rfl (pure_load_box_agg rfl ag25 sz25 rfl rfl rfl rfl) ?_
   refine dl_pure_g rfl rfl rfl rfl rfl (pure_call rfl rfl rfl (simS_call (by omega)) hM0) ?_
   refine dl_pure_g rfl rfl rfl rfl rfl (pure_load_box_agg rfl ag25 sz25 rfl rfl rfl rfl) ?_
   refine dpk 56 [(6,_),(7,_),(8,_),(29,_),(31,_),(32,_)] [(6,_),(7,_),(8,_)] rfl rfl rfl ?_
   refine dl_pure_g rfl rfl rfl rfl rfl (pure_callb (b' := true) rfl rfl rfl (same_call (a := (simR (revR (shapedP l 3)))) (b := (revR (shapedP l 3))) (by omega) (by omega)) hM0 (same_eq (simR_id (revR_nf _)))) ?_
   refine dl_pure rfl rfl rfl (pure_to (b' := true) (pure_pick_t rfl rfl rfl rfl) (by decide)) ?_
   refine dl_pure rfl rfl rfl (pure_move rfl rfl) ?_
   refine dl_pure_g rfl rfl rfl rfl rfl (pure_load_box_agg rfl ag25 sz25 rfl rfl rfl rfl) ?_
   refine dl_pure_g rfl rfl rfl rfl rfl (pure_call rfl rfl rfl (revS_call (by omega)) hM0) ?_
   refine dl_pure_g rfl rfl rfl rfl rfl (pure_load_box_agg rfl ag25 sz25 rfl rfl rfl rfl) ?_
   refine dl_pure_g rfl rfl rfl rfl rfl (pure_callb (b' := true) rfl rfl rfl (same_call (a := (revR (revR (shapedP l 3)))) (b := (simR (shapedP l 3))) (by omega) (by omega)) hM0 (same_eq (rev_rev hx))) ?_
   refine dpk 56 [(6,_),(7,_),(8,_),(35,_),(39,_)] [(6,_),(7,_),(8,_)] rfl rfl rfl ?_
   refine dl_pure rfl rfl rfl (pure_to (b' := true) (pure_pick_t rfl rfl rfl rfl) (by decide)) ?_
   refine dl_pure rfl rfl rfl (pure_move rfl rfl) ?_
   refine dl_pure_g rfl rfl rfl rfl rfl (pure_load_box_agg rfl ag25 sz25 rfl rfl rfl rfl) ?_
   refine dl_pure_g rfl rfl rfl rfl rfl (pure_callb (b' := true) rfl rfl rfl (valid_call _ (simR (shapedP l 3)) (Nat.le_refl _) (by omega)) hM0 (nf_valid (simR_nf _))) ?_
   refine dl_pure rfl rfl rfl (pure_to (b' := true) (pure_pick_t rfl rfl rfl rfl) (by decide)) ?_
   refine dl_pure rfl rfl rfl (pure_move rfl rfl) ?_
   refine dl_pure_g rfl rfl rfl rfl rfl (pure_load_box_agg rfl ag25 sz25 rfl rfl rfl rfl) ?_
   refine dpk 56 [(8,_),(45,_),(46,_)] [(6,_),(7,_),(8,_)] rfl rfl rfl ?_
   refine dl_pure_g rfl rfl rfl rfl rfl (pure_callb (b' := true) rfl rfl rfl (valid_call _ (dR (symP s) (simR (shapedP l 3))) (Nat.le_refl _) (by omega)) hM0 (nf_valid (dR_nf _ (simR_nf _)))) ?_
   refine dl_pure rfl rfl rfl (pure_to (b' := true) (pure_pick_t rfl rfl rfl rfl) (by decide)) ?_
   refine dl_pure rfl rfl rfl (pure_move rfl rfl) ?_
   refine dl_pure_g rfl rfl rfl rfl rfl (pure_load_box_agg rfl ag25 sz25 rfl rfl rfl rfl) ?_
   refine dl_pure_g rfl rfl rfl rfl rfl (pure_callb (b' := true) rfl rfl rfl (valid_call _ (revR (shapedP l 3)) (Nat.le_refl _) (by omega)) hM0 (nf_valid (revR_nf _))) ?_
   refine dl_pure rfl rfl rfl (pure_to (b' := true) (pure_pick_t rfl rfl rfl rfl) (by decide)) ?_
   refine dl_pure rfl rfl rfl (pure_move rfl rfl) ?_
   refine dl_pure_g rfl rfl rfl rfl rfl (pure_to (b' := true) (pure_callW (r := .p (bool true)) hdr rfl rfl rfl (lives_call) hM0) (rfl)) ?_
   refine dl_pure rfl rfl rfl (pure_to (b' := true) (pure_pick_t rfl rfl rfl rfl) (by decide)) ?_
   refine dl_pure rfl rfl rfl (pure_assign rfl rfl) ?_
   refine dl_nil ?_
   refine spk 56 [(4,_)] [] rfl rfl rfl ?_
   refine code_ret ?_
   refine end_ret rfl ?_
   rfl
end Go.Proofs.YtgdehkimfmfofaaGreat

namespace Go.Proofs.YtgdehkimfmfofaaGreat
open Go.Am Go.Wb Go.Wc
set_option linter.unusedVariables false
set_option linter.unusedSimpArgs false
/-! The statement RegexNormalSaid. -/
namespace regexNormal
open Go.ChangeShapes Go.WideShapes Go.ChangeAt Go.RowKit Go.Am
theorem own : ownKnob Tryz.prog.godebug = none := by kernel_rfl
set_option maxRecDepth 100000 in
theorem lifted (os : Os) (started : os.Started) (H : Type) (enc : TypeId × Value → H) :
    ReturnsInHanded {} Tryz.checked os 10 .any (Rows.regexNormalSpec.pre6 enc Tryz.prog Tryz.f10 Rows.regexNormalRow.domain false) (Rows.regexNormalSpec.post enc Tryz.prog Tryz.f10 false true false false) := by
  refine returnsInHanded_of_change (C := Tryz.checked) own started (by kernel_rfl) Tryz.func10
    (ChangeSpec.witness6 (enc := enc) (C := Tryz.checked) false ⟨#[], #[.slice none 0 0, .int .i64 0], []⟩ 8 (by kernel_rfl) (by kernel_rfl) (by kernel_rfl) (by kernel_rfl)) ?_
  intro W base args ds gs before hval0 hW hcnd _
  have hval : ∀ (j : Nat) t v, Tryz.f10.params[j]? = some t → args[j]? = some v → Value.okWide Tryz.prog W .any base t v := hval0
  have hW' := hW
  obtain ⟨p, q, hA0, hV, rfl, hfz, hnd⟩ := hW
  have hA : DataW.TrodAll enc Tryz.prog W 0 (fun _ => true) true Tryz.f10.params.toList args.toList ds p := hA0
  rw [Tryz.params10] at hA hval
  obtain ⟨v0, vs0, d0, ds0, p0, q0, hargs, rfl, rfl, h0, r0⟩ := trodAll_cons hA
  obtain ⟨v1, vs1, d1, ds1, p1, q1, rfl, rfl, rfl, h1, r1⟩ := trodAll_cons r0
  obtain ⟨rfl, rfl, rfl⟩ := trodAll_nil r1
  obtain rfl : args = #[v0, v1] := by cases args; simp_all
  obtain ⟨x0, y0, z0, e0⟩ := open_intsA Tryz.underlying22 Tryz.underlying3 sz3 (hval 0 22 v0 rfl rfl) h0
  obtain ⟨x1, y1, e1⟩ := open_intA Tryz.underlying3 (hval 1 3 v1 rfl rfl) h1
  have hcall := (normal_law z0 y0 y1).use (w := W) (vs := [v0, v1]) ⟨e0, e1, trivial⟩
  exact law_post (tb := 4) (by kernel_rfl) (by kernel_rfl) (by kernel_rfl) Tryz.underlying4 rfl rfl hW' hcall
theorem over : Rows.regexNormalRow.holds Tryz.pinned (OpenSpec.ofChange Rows.regexNormalSpec) :=
  OpenClaim.holds_of_wide 10 Tryz.f10 rfl rfl rfl rfl rfl rfl rfl ⟨rfl, rfl, rfl, rfl, rfl⟩ rfl rfl rfl rfl rfl (by kernel_rfl) Tryz.func10 (by kernel_rfl)
    (of_decide_eq_true (by kernel_rfl)) (by unfold Func.isWrapper; first | (rw [if_pos (by decide +kernel)]; kernel_rfl) | (rw [if_neg (by decide +kernel)]; exact ⟨rfl, rfl⟩))
    (fun os started H enc _ => lifted os started H enc)
end regexNormal
theorem regexNormal_holds : Rows.RegexNormalSaid := regexNormal.over
end Go.Proofs.YtgdehkimfmfofaaGreat

