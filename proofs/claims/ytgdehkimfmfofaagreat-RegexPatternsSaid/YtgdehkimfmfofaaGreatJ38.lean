/-
  Contracts: byte strings as bytes, and back.
-/
import Derived.Test.YtgdehkimfmfofaaGreatJ35
import Derived.Test.YtgdehkimfmfofaaGreatJ37
import Derived.Test.YtgdehkimfmfofaaGreatJ29
import Derived.Test.YtgdehkimfmfofaaGreatJ23
import Derived.Test.YtgdehkimfmfofaaGreatJ28
set_option linter.unusedVariables false
set_option linter.unusedSimpArgs false
namespace Go.Proofs.YtgdehkimfmfofaaGreat
open Go.Am Go.Wb Go.Wc
set_option linter.unusedVariables false
set_option linter.unusedSimpArgs false
theorem fn53 : Fn1 Tryz.prog 53 Tryz.f53.ntmps 0 (Tryz.f53.body.getD .skip) := ⟨Tryz.f53, Tryz.func53, rfl, rfl, rfl, by kernel_rfl⟩
set_option maxRecDepth 100000 in
theorem abc_call : CallF Tryz.prog 53 [] (.p (letters abcL)) := by
  refine callF_of_code fn53 (Nat.le_of_ble_eq_true rfl) fun w0 M0 hM0 => ?_
  refine xC tb hM0 10 [1,2,3] [] rfl ?_
  refine oP rfl (pure_lit rfl Tryz.underlying39 el83 rfl rfl rfl rfl hM0) ?_
  refine xA tb hM0 4 [] [] rfl ?_
  refine end_ret rfl ?_
  rfl
theorem lvp {s : List UInt8} (hs : s.length ≤ 100) : CallF Tryz.prog 32 [sbytes s, letters abcL, .sl []] (.p (.tup [rx (parseP abcL [] s).1, int (parseP abcL [] s).2])) :=
  parse_call (sets := []) (by omega) (by decide) (by decide) (by decide) (by decide)
theorem lvp1 : CallF Tryz.prog 32 [sbytes [97, 40, 98, 124, 99, 41, 42], letters abcL, .sl []] (.p (.tup [rx xL, int (-1)])) := by
  have h := lvp (s := [97, 40, 98, 124, 99, 41, 42]) (by decide)
  rw [liv1] at h; exact h
theorem lvp2 : CallF Tryz.prog 32 [sbytes [97, 41], letters abcL, .sl []] (.p (.tup [rx (parseP abcL [] [97, 41]).1, int 1])) := by
  have h := lvp (s := [97, 41]) (by decide)
  rw [liv2] at h; exact h
theorem lvp3 : CallF Tryz.prog 32 [sbytes [40, 97], letters abcL, .sl []] (.p (.tup [rx (parseP abcL [] [40, 97]).1, int 2])) := by
  have h := lvp (s := [40, 97]) (by decide)
  rw [liv3] at h; exact h
theorem lvp4 : CallF Tryz.prog 32 [sbytes [97, 42, 98, 124, 42], letters abcL, .sl []] (.p (.tup [rx (parseP abcL [] [97, 42, 98, 124, 42]).1, int 4])) := by
  have h := lvp (s := [97, 42, 98, 124, 42]) (by decide)
  rw [liv4] at h; exact h
theorem lv_print : CallW Tryz.prog 35 [rx xL, letters abcL] (.p (sbytes [97, 40, 98, 124, 99, 41, 42])) := by
  have h := print_call (a := abcL) (r := xL) (by decide) (by decide) (by decide)
  rw [liv5] at h; exact h
theorem lv_d0 : CallN Tryz.prog 24 [rx xL, int 0] (.p (rx restL)) := by
  have h := Derive_call (r := xL) (a := 0) (by decide) (by decide +kernel)
  rw [liv6] at h; exact h
theorem lv_d1 : CallN Tryz.prog 24 [rx xL, int 1] (.p (rx noneRx)) := by
  have h := Derive_call (r := xL) (a := 1) (by decide) (by decide +kernel)
  rw [liv7] at h; exact h
theorem lv_s : CallF Tryz.prog 19 [rx (.mk 4 [] [emptyRx, restL])] (.p (rx restL)) := by
  have h := simS_call (r := .mk 4 [] [emptyRx, restL]) (by decide)
  rw [liv8] at h; exact h
theorem lv_r : CallF Tryz.prog 21 [rx xL] (.p (rx zL)) := by
  have h := revS_call (r := xL) (by decide)
  rw [liv9] at h; exact h
theorem lv_m1 : CallF Tryz.prog 28 [rx xL, ints [0, 1, 2, 1]] (.p (bool true)) := by
  have h := match_call (r := xL) (w := [0, 1, 2, 1]) (by decide) (by decide) (by decide +kernel)
  rw [liv10] at h; exact h
theorem lv_m2 : CallF Tryz.prog 28 [rx xL, ints [1]] (.p (bool false)) := by
  have h := match_call (r := xL) (w := [1]) (by decide) (by decide) (by decide +kernel)
  rw [liv11] at h; exact h
theorem fn23 : Fn1 Tryz.prog 23 Tryz.f23.ntmps 0 (Tryz.f23.body.getD .skip) := ⟨Tryz.f23, Tryz.func23, rfl, rfl, rfl, by kernel_rfl⟩
set_option maxRecDepth 100000 in
set_option maxHeartbeats 8000000 in
theorem lives_call : CallW Tryz.prog 23 [] (.p (bool true)) := by
  refine callW_of_code fn23 (Nat.le_of_ble_eq_true rfl) fun w0 M0 hM0 hdr => ?_
  refine xC tb hM0 7 [] [] rfl ?_
  refine oP rfl (pure_call rfl rfl rfl (abc_call) hM0) ?_
  refine xA tb hM0 6 [1,15] [] rfl ?_
  refine oP rfl (pure_call rfl rfl rfl (lvp1) hM0) ?_
  refine xA tb hM0 10 [1,2,3] [2] rfl ?_
  refine oP rfl (pure_lit rfl Tryz.underlying22 el3 rfl rfl rfl rfl hM0) ?_
  refine oP rfl (pure_callN rfl rfl rfl rfl (one_call [1, 2]) hM0) ?_
  refine xA tb hM0 0 [1,2,3,20] [2] rfl ?_
  refine oP rfl (pure_lit rfl Tryz.underlying23 el25 rfl rfl rfl rfl hM0) ?_
  refine oP rfl (pure_callN rfl rfl rfl rfl (of_call 5 [oneR [1, 2]]) hM0) ?_
  refine xA tb hM0 6 [1,2,3,4] [2,4] rfl ?_
  refine code_draw mixed (by kernel_rfl) _ rfl ?_
  refine dl_pure rfl rfl rfl (pure_move rfl rfl) ?_
  refine dl_pure rfl rfl rfl (pure_to (b' := false) (pure_neq rfl rfl rfl) (by decide)) ?_
  refine dl_pure rfl rfl rfl (pure_move rfl rfl) ?_
  refine dl_pure_g rfl rfl rfl rfl rfl (pure_load_box_agg rfl ag25 sz25 rfl rfl rfl rfl) ?_
  refine dl_pure_g rfl rfl rfl rfl rfl (pure_lit rfl Tryz.underlying22 el3 rfl rfl rfl rfl hM0) ?_
  refine dl_pure_g rfl rfl rfl rfl rfl (pure_callN rfl rfl rfl rfl (one_call [0]) hM0) ?_
  refine dl_pure_g rfl rfl rfl rfl rfl (pure_load_box_agg rfl ag25 sz25 rfl rfl rfl rfl) ?_
  refine dpk 123 [(1,_),(2,_),(4,_),(25,_),(26,_),(28,_),(29,_)] [(2,_),(4,_)] rfl rfl rfl ?_
  refine dl_pure_g rfl rfl rfl rfl rfl (pure_lit rfl Tryz.underlying23 el25 rfl rfl rfl rfl hM0) ?_
  refine dl_pure_g rfl rfl rfl rfl rfl (pure_callN rfl rfl rfl rfl (of_call 3 [oneR [0], restL]) hM0) ?_
  refine dl_pure_g rfl rfl rfl rfl rfl (pure_callb (b' := true) rfl rfl rfl (same_call (a := xL) (b := xL) (by decide) (by decide)) hM0 (by kernel_rfl)) ?_
  refine dl_pure_g rfl rfl rfl rfl rfl (pure_not rfl rfl) ?_
  refine dl_pure rfl rfl rfl (pure_pick_f rfl rfl rfl rfl) ?_
  refine dl_nil ?_
  refine xD tb hM0 7 [1,2,4,36] [2,4] rfl ?_
  refine oP rfl (pure_call rfl rfl rfl (lvp2) hM0) ?_
  refine xA tb hM0 11 [1,2,4,6,41] [2,4] rfl ?_
  refine oP rfl (pure_call rfl rfl rfl (lvp3) hM0) ?_
  refine xA tb hM0 11 [1,2,4,6,8,46] [2,4] rfl ?_
  refine oP rfl (pure_call rfl rfl rfl (lvp4) hM0) ?_
  refine xA tb hM0 12 [1,2,4,8,10,50] [2,4] rfl ?_
  refine oP rfl (pure_to (b' := false) (pure_neq rfl rfl rfl) (by decide)) ?_
  refine xA tb hM0 2 [1,2,4,10,52,53] [2,4] rfl ?_
  refine oP rfl (pure_to (b' := false) (pure_neq rfl rfl rfl) (by decide)) ?_
  refine xA tb hM0 3 [1,2,4,56,57] [2,4] rfl ?_
  refine oP rfl (pure_to (b' := false) (pure_neq rfl rfl rfl) (by decide)) ?_
  refine xA tb hM0 4 [2,4,60,61,62] [2,4] rfl ?_
  refine oP rfl (pure_callW hdr rfl rfl rfl (lv_print) hM0) ?_
  refine oP rfl (pure_to (b' := false) (pure_sneq rfl rfl rfl) (by decide)) ?_
  refine xA tb hM0 3 [2,4,66,67] [2,4] rfl ?_
  refine oP rfl (pure_callb (b' := true) rfl rfl rfl (valid_call _ xL (Nat.le_refl _) (by decide)) hM0 (liv12)) ?_
  refine xA tb hM0 4 [2,4,71,72] [2,4] rfl ?_
  refine oP rfl (pure_callb (b' := false) rfl rfl rfl (Empty_call (r := xL) (by decide)) hM0 (by kernel_rfl)) ?_
  refine xA tb hM0 3 [2,4,75,76] [2,4] rfl ?_
  refine oP rfl (pure_callb (b' := true) rfl rfl rfl (Empty_call (r := restL) (by decide)) hM0 (by kernel_rfl)) ?_
  refine xA tb hM0 9 [2,4] [2,4] rfl ?_
  refine code_draw mixed (by kernel_rfl) _ rfl ?_
  refine dl_pure rfl rfl rfl (pure_load_box_agg rfl ag25 sz25 rfl rfl rfl rfl) ?_
  refine dl_pure rfl rfl rfl (pure_callN rfl rfl rfl rfl (lv_d0) hM0) ?_
  refine dl_pure rfl rfl rfl (pure_load_box_agg rfl ag25 sz25 rfl rfl rfl rfl) ?_
  refine dl_pure rfl rfl rfl (pure_callb (b' := true) rfl rfl rfl (same_call (a := restL) (b := restL) (by decide) (by decide)) hM0 (by kernel_rfl)) ?_
  refine dl_pure rfl rfl rfl (pure_not rfl rfl) ?_
  refine dl_pure rfl rfl rfl (pure_move rfl rfl) ?_
  refine dl_pure_g rfl rfl rfl rfl rfl (pure_load_box_agg rfl ag25 sz25 rfl rfl rfl rfl) ?_
  refine dpk 123 [(2,_),(4,_),(85,_),(86,_)] [(2,_),(4,_)] rfl rfl rfl ?_
  refine dl_pure_g rfl rfl rfl rfl rfl (pure_callN rfl rfl rfl rfl (lv_d1) hM0) ?_
  refine dl_pure_g rfl rfl rfl rfl rfl (pure_fieldv rfl fd25_0 rfl rfl) ?_
  refine dl_pure_g rfl rfl rfl rfl rfl (pure_to (b' := false) (pure_neq rfl rfl rfl) (by decide)) ?_
  refine dl_pure rfl rfl rfl (pure_pick_f rfl rfl rfl rfl) ?_
  refine dl_nil ?_
  refine xD tb hM0 6 [2,4] [2,4] rfl ?_
  refine oP rfl (pure_norm (pure_build rfl pl25 ze25 rfl rfl rfl) rfl) ?_
  refine xA tb hM0 1 [2,4,91,92] [2,4] rfl ?_
  refine oP rfl (pure_lit rfl Tryz.underlying23 el25 rfl rfl rfl rfl hM0) ?_
  refine oP rfl (pure_callN rfl rfl rfl rfl (of_call 4 [emptyRx, restL]) hM0) ?_
  refine xA tb hM0 0 [2,4,94] [2,4] rfl ?_
  refine oP rfl (pure_call rfl rfl rfl (lv_s) hM0) ?_
  refine xA tb hM0 7 [2,4,11,96] [2,4,11] rfl ?_
  refine oP rfl (pure_call rfl rfl rfl (lv_r) hM0) ?_
  refine xA tb hM0 8 [2,12,98,99] [2,12] rfl ?_
  refine oP rfl (pure_callb (b' := true) rfl rfl rfl (same_call (a := restL) (b := restL) (by decide) (by decide)) hM0 (by kernel_rfl)) ?_
  refine xA tb hM0 2 [2,12,101,102] [2,12] rfl ?_
  refine oP rfl (pure_lit rfl Tryz.underlying22 el3 rfl rfl rfl rfl hM0) ?_
  refine oP rfl (pure_callb (b' := true) rfl rfl rfl (lv_m1) hM0 (rfl)) ?_
  refine xA tb hM0 3 [12,106,107] [12] rfl ?_
  refine oP rfl (pure_lit rfl Tryz.underlying22 el3 rfl rfl rfl rfl hM0) ?_
  refine oP rfl (pure_callb (b' := false) rfl rfl rfl (lv_m2) hM0 (rfl)) ?_
  refine xA tb hM0 5 [12,112,114] [12] rfl ?_
  refine oP rfl (pure_to (b' := true) (pure_eql rfl rfl rfl) (by decide)) ?_
  refine xA tb hM0 4 [117,119] [] rfl ?_
  refine oP rfl (pure_len rfl Tryz.underlying23 rfl) ?_
  refine oP rfl (pure_to (b' := true) (pure_eql rfl rfl rfl) (by decide)) ?_
  refine xA tb hM0 5 [] [] rfl ?_
  refine end_ret rfl ?_
  rfl
end Go.Proofs.YtgdehkimfmfofaaGreat

namespace Go.Proofs.YtgdehkimfmfofaaGreat
open Go.Am Go.Wb Go.Wc
set_option linter.unusedVariables false
set_option linter.unusedSimpArgs false
theorem same_eq {a b : Rx} (h : a = b) : decide (cmpR a b = 0) = true := by rw [h, cmpR_self]; rfl
end Go.Proofs.YtgdehkimfmfofaaGreat

namespace Go.Proofs.YtgdehkimfmfofaaGreat
open Go.Am Go.Wb
set_option linter.unusedVariables false
set_option linter.unusedSimpArgs false

end Go.Proofs.YtgdehkimfmfofaaGreat

namespace Go.Proofs.YtgdehkimfmfofaaGreat
open Go.Am Go.Wb Go.Wc
set_option linter.unusedVariables false
set_option linter.unusedSimpArgs false
theorem fn71 : Fn1 Tryz.prog 71 Tryz.f71.ntmps 2 (Tryz.f71.body.getD .skip) := ⟨Tryz.f71, Tryz.func71, rfl, rfl, rfl, by kernel_rfl⟩
set_option maxRecDepth 100000 in
set_option maxHeartbeats 4000000 in
theorem wint_call {n : Int} (hn : 0 ≤ n ∧ n < 65536) : CallF Tryz.prog 71 [int n] (.fresh 5 ((wbE n).map byteI)) := by
  have hkl := kvalI_le n
  refine callF_of_code fn71 (Nat.le_of_ble_eq_true rfl) fun w0 M0 hM0 => ?_
  refine xC tb hM0 2 [0] [] rfl ?_
  refine oS rfl (step_nil rfl rfl rfl rfl rfl 5 hM0) rfl ?_
  refine xA tb hM0 6 [0,8] [] rfl ?_
  refine oP rfl (pure_toi (a' := n) (pure_conv rfl Tryz.underlying3 Tryz.underlying121 rfl) (u64_id hn)) ?_
  refine xA tb hM0 8 [3,4,10] [] rfl ?_
  refine oP rfl (pure_to (b' := false) (pure_lss rfl rfl rfl) (decide_eq_false (by omega))) ?_
  refine xA tb hM0 13 [3,4,5] [] rfl ?_
  refine ct (fun zs => zs = ⟨47, [(3, .v .pl (.sc (.int .u64 n))), (4, .v .pl (.sc (.int .u8 0))), (5, .v .pl (int (kvalI n)))], []⟩) ?_ ?_
  refine xA tb hM0 1 [3,4,5] [] rfl ?_
  refine lp (fun zm zs => ∃ k : Nat, zm = 0 + k ∧ (kvalI n ≤ k ∧ k ≤ 8) ∧ zs = ⟨47, [(3, .v .pl (.sc (.int .u64 n))), (4, .v .pl (.sc (.int .u8 0))), (5, .v .pl (int k))], []⟩) ?_ ?_
  exact ⟨_, 8, rfl, by omega, rfl⟩
  rintro zm zs ⟨k, rfl, hL1_0, rfl⟩
  refine xA tb hM0 7 [3,4,5,15] [] rfl ?_
  refine spC 15 rfl ?_ ?_ <;> intro h1 <;> try simp only [dq] at h1
  refine xA tb hM0 9 [3,4,5,16,17] [] rfl ?_
  refine oP rfl (pure_subi rfl rfl rfl (by omega)) ?_
  refine oP rfl (pure_muli rfl rfl rfl (by omega)) ?_
  refine xA tb hM0 0 [3,4,5,16,19] [] rfl ?_
  refine oP rfl (pure_shr rfl rfl rfl (by omega)) ?_
  refine oP rfl (pure_gtr rfl rfl rfl) ?_
  refine xA tb hM0 2 [3,4,5,21] [] rfl ?_
  refine spC 21 rfl ?_ ?_ <;> intro h2 <;> try simp only [dq] at h2
  have hsp := (shr_pos hn (k := k) (by omega)).1 (by assumption)
  refine xA tb hM0 6 [3,4,5] [] rfl ?_
  refine cx ?_; rotate_left
  have hsp : ¬ k ≤ kvalI n := fun h => absurd ((shr_pos hn (k := k) (by omega)).2 h) (by assumption)
  refine xA tb hM0 5 [3,4,22] [] rfl ?_
  refine oP rfl (pure_subi rfl rfl rfl (by omega)) ?_
  refine xA tb hM0 3 [3,4,5] [] rfl ?_
  refine nx ?_
  exact ⟨_, ⟨k - 1, rfl, by omega, by rw [show ((k - 1 : Nat) : Int) = (k : Int) - 1 by omega]⟩, by omega⟩
  refine xA tb hM0 5 [3,4,5] [] rfl ?_
  refine cx ?_; rotate_left
  rintro zs ⟨rfl⟩
  refine xA tb hM0 3 [3,4,5,24] [] rfl ?_
  refine oP rfl (pure_addi rfl rfl rfl (by omega)) ?_
  refine oP rfl (pure_toi (a' := (128 + (kvalI n : Int))) (pure_conv rfl Tryz.underlying3 Tryz.underlying5 rfl) (by rw [u8_wrap]; omega)) ?_
  refine xA tb hM0 1 [3,4,5,26,27] [] rfl ?_
  refine oP rfl (pure_toi (a' := (128 + (kvalI n : Int))) (pure_xor rfl rfl rfl) (xor0 (by omega))) ?_
  refine oS rfl (step_lit rfl rfl rfl rfl Tryz.underlying45 el5 rfl rfl rfl rfl hM0) rfl ?_
  refine xA tb hM0 7 [3,4,6,30] [29] rfl ?_
  refine oP rfl (pure_subi rfl rfl rfl (by omega)) ?_
  refine xA tb hM0 4 [3,4,6,7] [29] rfl ?_
  refine lp (fun zm zs => ∃ j : Nat, zm = kvalI n - j ∧ (j ≤ kvalI n) ∧ zs = ⟨47, [(3, .v .pl (.sc (.int .u64 n))), (4, .v .pl (.sc (.int .u8 0))), (6, .own 29), (7, .v .pl (int ((kvalI n : Int) - 1 - j)))], [(29, .arr 5 (((128 + (kvalI n : Int)) :: (wbB n).take j).map byteI))]⟩) ?_ ?_
  refine ⟨_, 0, rfl, Nat.zero_le _, ?_⟩
  rw [show ((kvalI n : Int) - 1 - ((0 : Nat) : Int)) = (kvalI n : Int) - 1 by omega]; rfl
  rintro zm zs ⟨j, rfl, hL2_0, rfl⟩
  have hbl := wbB_len n
  have hbj := wbB_get hn j
  refine xA tb hM0 7 [3,4,6,7,33] [29] rfl ?_
  refine spC 33 rfl ?_ ?_ <;> intro h3 <;> try simp only [dq] at h3
  refine xA tb hM0 9 [3,4,7,36,37,38] [29] rfl ?_
  refine oP rfl (pure_muli rfl rfl rfl (by omega)) ?_
  refine oP rfl (pure_shr rfl rfl rfl (by omega)) ?_
  refine xA tb hM0 0 [3,4,7,36,40] [29] rfl ?_
  refine oP rfl (pure_toi (a' := ((wbB n).getD j default)) (pure_conv rfl Tryz.underlying121 Tryz.underlying5 rfl) (shr_byte hn rfl (by omega))) ?_
  refine xA tb hM0 1 [3,4,7,36,41,42] [29] rfl ?_
  refine oP rfl (pure_toi (a' := ((wbB n).getD j default)) (pure_xor rfl rfl rfl) (xor0 hbj)) ?_
  refine oP rfl (pure_lit rfl Tryz.underlying45 el5 rfl rfl rfl rfl hM0) ?_
  refine xA tb hM0 0 [3,4,7,36,44] [29] rfl ?_
  refine oS rfl (step_append rfl rfl rfl rfl Tryz.underlying45 el5 rfl rfl hM0 (src_pl rfl (one_len (by rfl))) (by simp only [List.length_map, List.length_cons, List.length_nil, List.length_take]; omega) (by simp only [List.length_map, List.length_cons, List.length_nil, List.length_take]; omega)) rfl ?_
  refine xA tb hM0 6 [3,4,6,34] [29] rfl ?_
  refine oP rfl (pure_subi rfl rfl rfl (by omega)) ?_
  refine xA tb hM0 2 [3,4,6,7] [29] rfl ?_
  refine nx ?_
  exact ⟨_, ⟨j + 1, rfl, by omega, by rw [take_succ (by omega), ← List.cons_append, List.map_append, show ((kvalI n : Int) - 1 - ((j + 1 : Nat) : Int)) = (kvalI n : Int) - 1 - j - 1 by omega]; rfl⟩, by omega⟩
  refine xA tb hM0 14 [] [] rfl ?_
  refine end_ret rfl ?_
  rw [List.take_of_length_le (by rw [wbB_len]; omega)]; rfl
  all_goals
    rw [show k = kvalI n by omega]
theorem fn42 : Fn1 Tryz.prog 42 Tryz.f42.ntmps 2 (Tryz.f42.body.getD .skip) := ⟨Tryz.f42, Tryz.func42, rfl, rfl, rfl, by kernel_rfl⟩
set_option maxRecDepth 100000 in
set_option maxHeartbeats 4000000 in
theorem wbytes_call {s : List UInt8} (hs : s.length < 65536) : CallF Tryz.prog 42 [sbytes s] (.fresh 5 ((wbE (s.length : Int) ++ s.map fun c : UInt8 => ((c.toNat : Nat) : Int)).map byteI)) := by
  have hel := wbE_len (s.length : Int)
  refine callF_of_code fn42 (Nat.le_of_ble_eq_true rfl) fun w0 M0 hM0 => ?_
  refine xC tb hM0 2 [0] [] rfl ?_
  refine oS rfl (step_nil rfl rfl rfl rfl rfl 5 hM0) rfl ?_
  refine xA tb hM0 5 [0,3] [] rfl ?_
  refine oP rfl (pure_slen rfl Tryz.underlying9 rfl) ?_
  refine oS rfl (step_call_own rfl rfl rfl rfl rfl rfl (wint_call (by omega)) hM0) rfl ?_
  refine xA tb hM0 1 [5,6] [5] rfl ?_
  refine oS rfl (step_append_str rfl rfl rfl rfl Tryz.underlying45 Tryz.underlying9 el5 (by kernel_rfl) rfl rfl hM0 rfl (by simp only [List.length_map]; omega)) rfl ?_
  refine xA tb hM0 4 [] [] rfl ?_
  refine end_ret rfl ?_
  rw [List.map_append, List.map_map]; rfl
theorem fn108 : Fn3 Tryz.prog 108 Tryz.f108.ntmps 2 3 4 (Tryz.f108.body.getD .skip) := ⟨Tryz.f108, Tryz.func108, rfl, rfl, rfl, by kernel_rfl⟩
set_option maxRecDepth 100000 in
set_option maxHeartbeats 4000000 in
theorem getint_call {n : Int} {rest : List Int} (hn : 0 ≤ n ∧ n < 65536) (hr : rest.length < 65536) : CallF Tryz.prog 108 [.sl ((wbE n ++ rest).map byteI)] (.p (.tup [int n, int ((kvalI n : Int) + 1), int 0])) := by
  have hkl := kvalI_le n
  have hfl := wbE_full n rest
  have hbl := wbB_len n
  refine callF_of_code3 fn108 (Nat.le_of_ble_eq_true rfl) fun w0 M0 hM0 => ?_
  refine xC tb hM0 11 [0,10] [] rfl ?_
  refine oP rfl (pure_lenm rfl Tryz.underlying45 rfl) ?_
  refine oP rfl (pure_to (b' := false) (pure_eql rfl rfl rfl) (decide_eq_false (by omega))) ?_
  refine xA tb hM0 14 [0,5,13] [] rfl ?_
  refine oP rfl (pure_ix (f := byteI) (l := (wbE n ++ rest)) rfl Tryz.underlying45 sz5 rfl rfl (by omega) (fun _ => rfl)) ?_
  refine xA tb hM0 1 [0,5,15] [] rfl ?_
  refine oP rfl (pure_to (b' := false) (pure_lss rfl rfl rfl) (decide_eq_false (by show ¬ (128 + (kvalI n : Int)) < 128; omega))) ?_
  refine xA tb hM0 5 [0,5] [] rfl ?_
  refine ct (fun zs => zs = ⟨71, [(0, .v .mx (.sl ((wbE n ++ rest).map byteI))), (5, .v .pl (.sc (.int .u8 0))), (6, .v .pl (int (kvalI n : Int)))], []⟩) ?_ ?_
  ·skip
   refine xA tb hM0 2 [0,5,17] [] rfl ?_
   refine oP rfl (pure_ix (f := byteI) (l := (wbE n ++ rest)) rfl Tryz.underlying45 sz5 rfl rfl (by omega) (fun _ => rfl)) ?_
   refine xA tb hM0 2 [0,5,19,20] [] rfl ?_
   refine oP rfl (pure_toi (a' := (128 + (kvalI n : Int))) (pure_xor rfl rfl rfl) (xor0 (show 0 ≤ 128 + (kvalI n : Int) ∧ 128 + (kvalI n : Int) < 256 by omega))) ?_
   refine oP rfl (pure_toi (a' := (128 + (kvalI n : Int))) (pure_conv rfl Tryz.underlying5 Tryz.underlying3 rfl) (i64_id (by omega))) ?_
   refine xA tb hM0 0 [0,5,22] [] rfl ?_
   refine oP rfl (pure_subi rfl rfl rfl (by omega)) ?_
   refine xA tb hM0 2 [0,5,6] [] rfl ?_
   refine cx ?_
   rw [show (128 + (kvalI n : Int) - 128) = (kvalI n : Int) by omega]; rfl
  ·rintro zs ⟨rfl⟩
   refine ct (fun zs => zs = ⟨71, [(0, .v .mx (.sl ((wbE n ++ rest).map byteI))), (5, .v .pl (.sc (.int .u8 0))), (6, .v .pl (int (kvalI n : Int)))], []⟩) ?_ ?_
   ·skip
    refine xA tb hM0 4 [0,5,6,25] [] rfl ?_
    refine oP rfl (pure_to (b' := false) (pure_gtr rfl rfl rfl) (decide_eq_false (by omega))) ?_
    refine xA tb hM0 7 [0,5,6,28] [] rfl ?_
    refine oP rfl (pure_lenm rfl Tryz.underlying45 rfl) ?_
    refine xA tb hM0 1 [0,5,6,29,30] [] rfl ?_
    refine oP rfl (pure_to (b' := false) (pure_leq rfl rfl rfl) (decide_eq_false (by omega))) ?_
    refine xA tb hM0 9 [0,5,6,35] [] rfl ?_
    refine spO 35 rfl ?_ ?_ <;> intro h1' <;> try simp only [dq] at h1'
    ·skip
     refine xA tb hM0 1 [0,5,6,35,36] [] rfl ?_
     refine oP rfl (pure_ix (f := byteI) (l := (wbE n ++ rest)) rfl Tryz.underlying45 sz5 rfl rfl (by omega) (fun _ => rfl)) ?_
     refine xA tb hM0 2 [0,5,6,35,38,39] [] rfl ?_
     refine oP rfl (pure_toi (a' := ((wbB n).getD 0 default)) (pure_xor rfl rfl rfl) (by rw [wbE_1 (by omega)]; exact xor0 (wbB_get hn 0))) ?_
     refine oP rfl (pure_to (b' := false) (pure_eql rfl rfl rfl) (decide_eq_false (wbB_0 hn (by omega)))) ?_
     refine xA tb hM0 7 [0,5,6] [] rfl ?_
     refine cx ?_
     exact rfl
    ·skip
     refine xA tb hM0 13 [0,5,6] [] rfl ?_
     refine cx ?_
     exact rfl
   ·rintro zs ⟨rfl⟩
    refine xA tb hM0 5 [0,5,6,7] [] rfl ?_
    refine ct (fun zs => zs = ⟨71, [(5, .v .pl (.sc (.int .u8 0))), (6, .v .pl (int (kvalI n : Int))), (7, .v .pl (.sc (.int .u64 n)))], []⟩) ?_ ?_
    ·skip
     refine xA tb hM0 4 [5,6,7,43,44] [] rfl ?_
     refine oP rfl (pure_addi rfl rfl rfl (by omega)) ?_
     refine oP rfl (pure_slice rfl Tryz.underlying45 sz5 rfl rfl rfl (by simp only [List.length_map]; omega) (map_len fun _ => rfl)) ?_
     refine xA tb hM0 0 [5,6,7,46] [] rfl ?_
     refine oP rfl (pure_len rfl Tryz.underlying45 rfl) ?_
     refine xA tb hM0 4 [5,6,7,46,47,48] [] rfl ?_
     refine lp (fun zm zs => ∃ j : Nat, zm = kvalI n - j ∧ (j ≤ kvalI n) ∧ zs = ⟨71, [(5, .v .pl (.sc (.int .u8 0))), (6, .v .pl (int (kvalI n : Int))), (7, .v .pl (.sc (.int .u64 (vB n j)))), (46, .v .mx (.sl ((wbB n).map byteI))), (47, .v .pl (int (kvalI n : Int))), (48, .v .pl (int j))], []⟩) ?_ ?_
     ·refine ⟨_, 0, rfl, Nat.zero_le _, ?_⟩
      have e1 : (((kvalI n : Int) + 1).toNat - Int.toNat 1) = kvalI n := by rw [show Int.toNat 1 = 1 from rfl]; omega
      rw [vB_0, e1, show Int.toNat 1 = 1 from rfl, wbE_mid, List.length_map, wbB_len]; rfl
     ·rintro zm zs ⟨j, rfl, hL1_0, rfl⟩
      refine xA tb hM0 6 [5,6,7,46,47,48,49] [] rfl ?_
      refine spC 49 rfl ?_ ?_ <;> intro h2 <;> try simp only [dq] at h2
      ·skip
       refine xA tb hM0 7 [5,6,7,46,47,48] [] rfl ?_
       refine oP rfl (pure_ix (f := byteI) (l := (wbB n)) rfl Tryz.underlying45 sz5 rfl rfl (by omega) (fun _ => rfl)) ?_
       refine xA tb hM0 6 [5,6,9,46,47,48,52] [] rfl ?_
       refine oP rfl (pure_toi (a' := (vB n j * 256)) (pure_shl rfl rfl rfl (by omega)) (shl8 (vB_bd hn j))) ?_
       refine xA tb hM0 2 [5,6,46,47,48,53,54,55] [] rfl ?_
       refine oP rfl (pure_toi (a' := ((wbB n).getD j default)) (pure_xor rfl rfl rfl) (xor0 (wbB_get hn j))) ?_
       refine oP rfl (pure_toi (a' := ((wbB n).getD j default)) (pure_conv rfl Tryz.underlying5 Tryz.underlying121 rfl) (by have := wbB_get hn j; exact u64_id (by omega))) ?_
       refine xA tb hM0 0 [5,6,46,47,48,53,57] [] rfl ?_
       refine oP rfl (pure_toi (a' := (vB n (j + 1))) (pure_or rfl rfl rfl) ((or8 (vB_bd hn j) (wbB_get hn j)).trans (vB_step hn (by omega)))) ?_
       refine xA tb hM0 5 [5,6,7,46,47,48] [] rfl ?_
       refine oP rfl (pure_addi rfl rfl rfl (by omega)) ?_
       refine xA tb hM0 2 [5,6,7,46,47,48] [] rfl ?_
       refine nx ?_
       exact ⟨_, ⟨j + 1, rfl, by omega, rfl⟩, by omega⟩
      ·skip
       refine xA tb hM0 5 [5,6,7] [] rfl ?_
       refine cx ?_
       rw [show j = kvalI n by omega, vB_k hn]
    ·rintro zs ⟨rfl⟩
     refine xA tb hM0 4 [5,6,7,60] [] rfl ?_
     refine oP rfl (pure_toi (a' := 0) (pure_shr rfl rfl rfl (by omega)) (shr63 hn)) ?_
     refine oP rfl (pure_to (b' := false) (pure_gtr rfl rfl rfl) (by decide)) ?_
     refine xA tb hM0 9 [6,7,63] [] rfl ?_
     refine oP rfl (pure_to (b' := false) (pure_gtr rfl rfl rfl) (by decide)) ?_
     refine xA tb hM0 8 [6,67] [] rfl ?_
     refine oP rfl (pure_toi (a' := n) (pure_conv rfl Tryz.underlying121 Tryz.underlying3 rfl) (i64_id hn)) ?_
     refine xA tb hM0 1 [68,69] [] rfl ?_
     refine oP rfl (pure_addi rfl rfl rfl (by omega)) ?_
     refine xA tb hM0 6 [] [] rfl ?_
     refine end3_ret rfl rfl rfl ?_
     exact ⟨rfl, rfl, rfl⟩
theorem fn70 : Fn3 Tryz.prog 70 Tryz.f70.ntmps 4 5 6 (Tryz.f70.body.getD .skip) := ⟨Tryz.f70, Tryz.func70, rfl, rfl, rfl, by kernel_rfl⟩
set_option maxRecDepth 100000 in
set_option maxHeartbeats 4000000 in
theorem count_call {n : Int} {rest : List Int} (hn : 0 ≤ n ∧ n < 65536) (hr : rest.length < 65536) (hnr : (rest.length : Int) = n) : CallF Tryz.prog 70 [.sl ((wbE n ++ rest).map byteI), int 1] (.p (.tup [int n, int ((kvalI n : Int) + 1), int 0])) := by
  have hkl := kvalI_le n
  have hfl := wbE_full n rest
  refine callF_of_code3 fn70 (Nat.le_of_ble_eq_true rfl) fun w0 M0 hM0 => ?_
  refine xC tb hM0 10 [0,1,8] [] rfl ?_
  refine oP rfl (pure_call rfl rfl rfl (getint_call hn hr) hM0) ?_
  refine xA tb hM0 14 [0,1,4,5,6,14] [] rfl ?_
  refine oP rfl (pure_to (b' := false) (pure_neq rfl rfl rfl) (by decide)) ?_
  refine xA tb hM0 7 [0,1,4,5,6,17] [] rfl ?_
  refine oP rfl (pure_to (b' := false) (pure_lss rfl rfl rfl) (decide_eq_false (by omega))) ?_
  refine xA tb hM0 8 [1,4,5,6,20,21] [] rfl ?_
  refine oP rfl (pure_lenm rfl Tryz.underlying45 rfl) ?_
  refine xA tb hM0 1 [1,4,5,6,20,22,23] [] rfl ?_
  refine oP rfl (pure_subi rfl rfl rfl (by omega)) ?_
  refine xA tb hM0 1 [4,5,6,20,24,25] [] rfl ?_
  refine oP rfl (pure_quon rfl rfl rfl (by omega)) ?_
  refine oP rfl (pure_to (b' := false) (pure_gtr rfl rfl rfl) (decide_eq_false (by omega))) ?_
  refine xA tb hM0 18 [] [] rfl ?_
  refine end3_ret rfl rfl rfl ?_
  exact ⟨rfl, rfl, rfl⟩
theorem bytes_back (s : List UInt8) : ((s.map fun c : UInt8 => ((c.toNat : Nat) : Int)).map fun n => UInt8.ofNat n.toNat) = s := by
  rw [List.map_map]
  refine (List.map_congr_left fun c _ => ?_).trans (List.map_id _)
  show UInt8.ofNat (((c.toNat : Nat) : Int).toNat) = c
  rw [Int.toNat_natCast]
  exact UInt8.toNat_inj.1 (by rw [UInt8.toNat_ofNat']; exact Nat.mod_eq_of_lt c.toNat_lt)
theorem bytes_part (s : List UInt8) : ((((wbE (s.length : Int) ++ s.map fun c : UInt8 => ((c.toNat : Nat) : Int)).map byteI).drop ((kvalI (s.length : Int) : Int) + 1).toNat).take (((kvalI (s.length : Int) : Int) + 1 + s.length).toNat - ((kvalI (s.length : Int) : Int) + 1).toNat)) = (s.map fun c : UInt8 => ((c.toNat : Nat) : Int)).map byteI := by
  have e1 : ((kvalI (s.length : Int) : Int) + 1).toNat = (wbE (s.length : Int)).length := by unfold wbE; rw [List.length_cons, wbB_len]; omega
  have e2 : ((kvalI (s.length : Int) : Int) + 1 + s.length).toNat - (wbE (s.length : Int)).length = s.length := by rw [← e1]; omega
  rw [e1, e2, List.map_append, List.drop_left' (by rw [List.length_map]), List.take_of_length_le (by simp)]
theorem fn41 : Fn3 Tryz.prog 41 Tryz.f41.ntmps 2 3 4 (Tryz.f41.body.getD .skip) := ⟨Tryz.f41, Tryz.func41, rfl, rfl, rfl, by kernel_rfl⟩
set_option maxRecDepth 100000 in
set_option maxHeartbeats 4000000 in
theorem getbytes_call {s : List UInt8} (hs : s.length < 65536) : CallF Tryz.prog 41 [.sl ((wbE (s.length : Int) ++ s.map fun c : UInt8 => ((c.toNat : Nat) : Int)).map byteI)] (.p (.tup [sbytes s, int ((kvalI (s.length : Int) : Int) + 1 + s.length), int 0])) := by
  have hkl := kvalI_le (s.length : Int)
  have hfl := wbE_full (s.length : Int) (s.map fun c : UInt8 => ((c.toNat : Nat) : Int))
  have hbl := wbB_len (s.length : Int)
  have hback := bytes_back s
  have hml : (s.map fun c : UInt8 => ((c.toNat : Nat) : Int)).length = s.length := List.length_map _
  refine callF_of_code3 fn41 (Nat.le_of_ble_eq_true rfl) fun w0 M0 hM0 => ?_
  refine xC tb hM0 10 [0,9] [] rfl ?_
  refine oP rfl (pure_call rfl rfl rfl (count_call (n := (s.length : Int)) (rest := (s.map fun c : UInt8 => ((c.toNat : Nat) : Int))) (by omega) (by rw [List.length_map]; omega) (by rw [List.length_map])) hM0) ?_
  refine xA tb hM0 13 [0,5,6,7,14] [] rfl ?_
  refine oP rfl (pure_to (b' := false) (pure_neq rfl rfl rfl) (by decide)) ?_
  refine xA tb hM0 11 [5,6,17,18,19,20] [] rfl ?_
  refine oP rfl (pure_addi rfl rfl rfl (by omega)) ?_
  refine oP rfl (pure_slice rfl Tryz.underlying45 sz5 rfl rfl rfl (by rw [List.length_map (f := byteI)]; omega) (map_len fun _ => rfl)) ?_
  refine xA tb hM0 0 [5,6,22] [] rfl ?_
  refine oP rfl (pure_btosm (l := (s.map fun c : UInt8 => ((c.toNat : Nat) : Int))) rfl Tryz.underlying45 Tryz.underlying5 Tryz.underlying9 (by exact congrArg (fun q => some (Cls.mx, AV.sl q)) (bytes_part s))) ?_
  refine xA tb hM0 2 [23,24,25] [] rfl ?_
  refine oP rfl (pure_addi rfl rfl rfl (by omega)) ?_
  refine xA tb hM0 6 [] [] rfl ?_
  refine end3_ret rfl rfl rfl ?_
  exact ⟨by rw [hback]; rfl, rfl, rfl⟩
end Go.Proofs.YtgdehkimfmfofaaGreat

