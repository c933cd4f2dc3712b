/-
  The law RegexLanguage holds: for every input it returns true, and its arguments read as before.
-/
import Derived.Test.YtgdehkimfmfofaaGreatJ36
import Derived.Test.YtgdehkimfmfofaaGreatJ38
import Derived.Test.YtgdehkimfmfofaaGreatJ30
import Derived.Test.YtgdehkimfmfofaaGreatJ22
import Derived.Test.YtgdehkimfmfofaaGreatJ29
import Derived.Test.YtgdehkimfmfofaaGreatJ27
set_option linter.unusedVariables false
set_option linter.unusedSimpArgs false
namespace Go.Proofs.YtgdehkimfmfofaaGreat
open Go.Am Go.Wb Go.Wc
set_option linter.unusedVariables false
set_option linter.unusedSimpArgs false
theorem fn53 : Fn1 Tryz.prog 53 Tryz.f53.ntmps 0 (Tryz.f53.body.getD .skip) := ⟨Tryz.f53, Tryz.func53, rfl, rfl, rfl, by kernel_rfl⟩
set_option maxRecDepth 100000 in
theorem abc_call : CallF Tryz.prog 53 [] (.p (letters abcL)) := by
  refine callF_of_code fn53 (Nat.le_of_ble_eq_true rfl) fun w0 M0 hM0 => ?_
  refine xC tb hM0 10 [1,2,3] [] rfl ?_
  refine oP rfl (pure_lit rfl Tryz.underlying39 el83 rfl rfl rfl rfl hM0) ?_
  refine xA tb hM0 4 [] [] rfl ?_
  refine end_ret rfl ?_
  rfl
theorem lvp {s : List UInt8} (hs : s.length ≤ 100) : CallF Tryz.prog 32 [sbytes s, letters abcL, .sl []] (.p (.tup [rx (parseP abcL [] s).1, int (parseP abcL [] s).2])) :=
  parse_call (sets := []) (by omega) (by decide) (by decide) (by decide) (by decide)
theorem lvp1 : CallF Tryz.prog 32 [sbytes [97, 40, 98, 124, 99, 41, 42], letters abcL, .sl []] (.p (.tup [rx xL, int (-1)])) := by
  have h := lvp (s := [97, 40, 98, 124, 99, 41, 42]) (by decide)
  rw [liv1] at h; exact h
theorem lvp2 : CallF Tryz.prog 32 [sbytes [97, 41], letters abcL, .sl []] (.p (.tup [rx (parseP abcL [] [97, 41]).1, int 1])) := by
  have h := lvp (s := [97, 41]) (by decide)
  rw [liv2] at h; exact h
theorem lvp3 : CallF Tryz.prog 32 [sbytes [40, 97], letters abcL, .sl []] (.p (.tup [rx (parseP abcL [] [40, 97]).1, int 2])) := by
  have h := lvp (s := [40, 97]) (by decide)
  rw [liv3] at h; exact h
theorem lvp4 : CallF Tryz.prog 32 [sbytes [97, 42, 98, 124, 42], letters abcL, .sl []] (.p (.tup [rx (parseP abcL [] [97, 42, 98, 124, 42]).1, int 4])) := by
  have h := lvp (s := [97, 42, 98, 124, 42]) (by decide)
  rw [liv4] at h; exact h
theorem lv_print : CallW Tryz.prog 35 [rx xL, letters abcL] (.p (sbytes [97, 40, 98, 124, 99, 41, 42])) := by
  have h := print_call (a := abcL) (r := xL) (by decide) (by decide) (by decide)
  rw [liv5] at h; exact h
theorem lv_d0 : CallN Tryz.prog 24 [rx xL, int 0] (.p (rx restL)) := by
  have h := Derive_call (r := xL) (a := 0) (by decide) (by decide +kernel)
  rw [liv6] at h; exact h
theorem lv_d1 : CallN Tryz.prog 24 [rx xL, int 1] (.p (rx noneRx)) := by
  have h := Derive_call (r := xL) (a := 1) (by decide) (by decide +kernel)
  rw [liv7] at h; exact h
theorem lv_s : CallF Tryz.prog 19 [rx (.mk 4 [] [emptyRx, restL])] (.p (rx restL)) := by
  have h := simS_call (r := .mk 4 [] [emptyRx, restL]) (by decide)
  rw [liv8] at h; exact h
theorem lv_r : CallF Tryz.prog 21 [rx xL] (.p (rx zL)) := by
  have h := revS_call (r := xL) (by decide)
  rw [liv9] at h; exact h
theorem lv_m1 : CallF Tryz.prog 28 [rx xL, ints [0, 1, 2, 1]] (.p (bool true)) := by
  have h := match_call (r := xL) (w := [0, 1, 2, 1]) (by decide) (by decide) (by decide +kernel)
  rw [liv10] at h; exact h
theorem lv_m2 : CallF Tryz.prog 28 [rx xL, ints [1]] (.p (bool false)) := by
  have h := match_call (r := xL) (w := [1]) (by decide) (by decide) (by decide +kernel)
  rw [liv11] at h; exact h
theorem fn23 : Fn1 Tryz.prog 23 Tryz.f23.ntmps 0 (Tryz.f23.body.getD .skip) := ⟨Tryz.f23, Tryz.func23, rfl, rfl, rfl, by kernel_rfl⟩
set_option maxRecDepth 100000 in
set_option maxHeartbeats 8000000 in
theorem lives_call : CallW Tryz.prog 23 [] (.p (bool true)) := by
  refine callW_of_code fn23 (Nat.le_of_ble_eq_true rfl) fun w0 M0 hM0 hdr => ?_
  refine xC tb hM0 7 [] [] rfl ?_
  refine oP rfl (pure_call rfl rfl rfl (abc_call) hM0) ?_
  refine xA tb hM0 6 [1,15] [] rfl ?_
  refine oP rfl (pure_call rfl rfl rfl (lvp1) hM0) ?_
  refine xA tb hM0 10 [1,2,3] [2] rfl ?_
  refine oP rfl (pure_lit rfl Tryz.underlying22 el3 rfl rfl rfl rfl hM0) ?_
  refine oP rfl (pure_callN rfl rfl rfl rfl (one_call [1, 2]) hM0) ?_
  refine xA tb hM0 0 [1,2,3,20] [2] rfl ?_
  refine oP rfl (pure_lit rfl Tryz.underlying23 el25 rfl rfl rfl rfl hM0) ?_
  refine oP rfl (pure_callN rfl rfl rfl rfl (of_call 5 [oneR [1, 2]]) hM0) ?_
  refine xA tb hM0 6 [1,2,3,4] [2,4] rfl ?_
  refine code_draw mixed (by kernel_rfl) _ rfl ?_
  refine dl_pure rfl rfl rfl (pure_move rfl rfl) ?_
  refine dl_pure rfl rfl rfl (pure_to (b' := false) (pure_neq rfl rfl rfl) (by decide)) ?_
  refine dl_pure rfl rfl rfl (pure_move rfl rfl) ?_
  refine dl_pure_g rfl rfl rfl rfl rfl (pure_load_box_agg rfl ag25 sz25 rfl rfl rfl rfl) ?_
  refine dl_pure_g rfl rfl rfl rfl rfl (pure_lit rfl Tryz.underlying22 el3 rfl rfl rfl rfl hM0) ?_
  refine dl_pure_g rfl rfl rfl rfl rfl (pure_callN rfl rfl rfl rfl (one_call [0]) hM0) ?_
  refine dl_pure_g rfl rfl rfl rfl rfl (pure_load_box_agg rfl ag25 sz25 rfl rfl rfl rfl) ?_
  refine dpk 123 [(1,_),(2,_),(4,_),(25,_),(26,_),(28,_),(29,_)] [(2,_),(4,_)] rfl rfl rfl ?_
  refine dl_pure_g rfl rfl rfl rfl rfl (pure_lit rfl Tryz.underlying23 el25 rfl rfl rfl rfl hM0) ?_
  refine dl_pure_g rfl rfl rfl rfl rfl (pure_callN rfl rfl rfl rfl (of_call 3 [oneR [0], restL]) hM0) ?_
  refine dl_pure_g rfl rfl rfl rfl rfl (pure_callb (b' := true) rfl rfl rfl (same_call (a := xL) (b := xL) (by decide) (by decide)) hM0 (by kernel_rfl)) ?_
  refine dl_pure_g rfl rfl rfl rfl rfl (pure_not rfl rfl) ?_
  refine dl_pure rfl rfl rfl (pure_pick_f rfl rfl rfl rfl) ?_
  refine dl_nil ?_
  refine xD tb hM0 7 [1,2,4,36] [2,4] rfl ?_
  refine oP rfl (pure_call rfl rfl rfl (lvp2) hM0) ?_
  refine xA tb hM0 11 [1,2,4,6,41] [2,4] rfl ?_
  refine oP rfl (pure_call rfl rfl rfl (lvp3) hM0) ?_
  refine xA tb hM0 11 [1,2,4,6,8,46] [2,4] rfl ?_
  refine oP rfl (pure_call rfl rfl rfl (lvp4) hM0) ?_
  refine xA tb hM0 12 [1,2,4,8,10,50] [2,4] rfl ?_
  refine oP rfl (pure_to (b' := false) (pure_neq rfl rfl rfl) (by decide)) ?_
  refine xA tb hM0 2 [1,2,4,10,52,53] [2,4] rfl ?_
  refine oP rfl (pure_to (b' := false) (pure_neq rfl rfl rfl) (by decide)) ?_
  refine xA tb hM0 3 [1,2,4,56,57] [2,4] rfl ?_
  refine oP rfl (pure_to (b' := false) (pure_neq rfl rfl rfl) (by decide)) ?_
  refine xA tb hM0 4 [2,4,60,61,62] [2,4] rfl ?_
  refine oP rfl (pure_callW hdr rfl rfl rfl (lv_print) hM0) ?_
  refine oP rfl (pure_to (b' := false) (pure_sneq rfl rfl rfl) (by decide)) ?_
  refine xA tb hM0 3 [2,4,66,67] [2,4] rfl ?_
  refine oP rfl (pure_callb (b' := true) rfl rfl rfl (valid_call _ xL (Nat.le_refl _) (by decide)) hM0 (liv12)) ?_
  refine xA tb hM0 4 [2,4,71,72] [2,4] rfl ?_
  refine oP rfl (pure_callb (b' := false) rfl rfl rfl (Empty_call (r := xL) (by decide)) hM0 (by kernel_rfl)) ?_
  refine xA tb hM0 3 [2,4,75,76] [2,4] rfl ?_
  refine oP rfl (pure_callb (b' := true) rfl rfl rfl (Empty_call (r := restL) (by decide)) hM0 (by kernel_rfl)) ?_
  refine xA tb hM0 9 [2,4] [2,4] rfl ?_
  refine code_draw mixed (by kernel_rfl) _ rfl ?_
  refine dl_pure rfl rfl rfl (pure_load_box_agg rfl ag25 sz25 rfl rfl rfl rfl) ?_
  refine dl_pure rfl rfl rfl (pure_callN rfl rfl rfl rfl (lv_d0) hM0) ?_
  refine dl_pure rfl rfl rfl (pure_load_box_agg rfl ag25 sz25 rfl rfl rfl rfl) ?_
  refine dl_pure rfl rfl rfl (pure_callb (b' := true) rfl rfl rfl (same_call (a := restL) (b := restL) (by decide) (by decide)) hM0 (by kernel_rfl)) ?_
  refine dl_pure rfl rfl rfl (pure_not rfl rfl) ?_
  refine dl_pure rfl rfl rfl (pure_move rfl rfl) ?_
  refine dl_pure_g rfl rfl rfl rfl rfl (pure_load_box_agg rfl ag25 sz25 rfl rfl rfl rfl) ?_
  refine dpk 123 [(2,_),(4,_),(85,_),(86,_)] [(2,_),(4,_)] rfl rfl rfl ?_
  refine dl_pure_g rfl rfl rfl rfl rfl (pure_callN rfl rfl rfl rfl (lv_d1) hM0) ?_
  refine dl_pure_g rfl rfl rfl rfl rfl (pure_fieldv rfl fd25_0 rfl rfl) ?_
  refine dl_pure_g rfl rfl rfl rfl rfl (pure_to (b' := false) (pure_neq rfl rfl rfl) (by decide)) ?_
  refine dl_pure rfl rfl rfl (pure_pick_f rfl rfl rfl rfl) ?_
  refine dl_nil ?_
  refine xD tb hM0 6 [2,4] [2,4] rfl ?_
  refine oP rfl (pure_norm (pure_build rfl pl25 ze25 rfl rfl rfl) rfl) ?_
  refine xA tb hM0 1 [2,4,91,92] [2,4] rfl ?_
  refine oP rfl (pure_lit rfl Tryz.underlying23 el25 rfl rfl rfl rfl hM0) ?_
  refine oP rfl (pure_callN rfl rfl rfl rfl (of_call 4 [emptyRx, restL]) hM0) ?_
  refine xA tb hM0 0 [2,4,94] [2,4] rfl ?_
  refine oP rfl (pure_call rfl rfl rfl (lv_s) hM0) ?_
  refine xA tb hM0 7 [2,4,11,96] [2,4,11] rfl ?_
  refine oP rfl (pure_call rfl rfl rfl (lv_r) hM0) ?_
  refine xA tb hM0 8 [2,12,98,99] [2,12] rfl ?_
  refine oP rfl (pure_callb (b' := true) rfl rfl rfl (same_call (a := restL) (b := restL) (by decide) (by decide)) hM0 (by kernel_rfl)) ?_
  refine xA tb hM0 2 [2,12,101,102] [2,12] rfl ?_
  refine oP rfl (pure_lit rfl Tryz.underlying22 el3 rfl rfl rfl rfl hM0) ?_
  refine oP rfl (pure_callb (b' := true) rfl rfl rfl (lv_m1) hM0 (rfl)) ?_
  refine xA tb hM0 3 [12,106,107] [12] rfl ?_
  refine oP rfl (pure_lit rfl Tryz.underlying22 el3 rfl rfl rfl rfl hM0) ?_
  refine oP rfl (pure_callb (b' := false) rfl rfl rfl (lv_m2) hM0 (rfl)) ?_
  refine xA tb hM0 5 [12,112,114] [12] rfl ?_
  refine oP rfl (pure_to (b' := true) (pure_eql rfl rfl rfl) (by decide)) ?_
  refine xA tb hM0 4 [117,119] [] rfl ?_
  refine oP rfl (pure_len rfl Tryz.underlying23 rfl) ?_
  refine oP rfl (pure_to (b' := true) (pure_eql rfl rfl rfl) (by decide)) ?_
  refine xA tb hM0 5 [] [] rfl ?_
  refine end_ret rfl ?_
  rfl
end Go.Proofs.YtgdehkimfmfofaaGreat

namespace Go.Proofs.YtgdehkimfmfofaaGreat
open Go.Am Go.Wb Go.Wc
set_option linter.unusedVariables false
set_option linter.unusedSimpArgs false
theorem fn12 : FnC Tryz.prog 12 Tryz.f12.ntmps 2 25 3 (Tryz.f12.body.getD .skip) := ⟨Tryz.f12, Tryz.func12, rfl, rfl, rfl, by kernel_rfl, ag25, sz25⟩
set_option maxRecDepth 100000 in
theorem regex_call {l : List Int} (h64 : I64s l) (hl : l.length ≤ 9223372036854775807) : CallF Tryz.prog 12 [ints l] (.p (rx (shapedP l 3))) := by
  refine callF_of_codeC fn12 (Nat.le_of_ble_eq_true rfl) fun w0 M0 hM0 => ?_
  refine xC tb hM0 8 [2,3] [2] rfl ?_
  refine oP rfl (pure_call rfl rfl rfl (shaped_call h64 (by decide) (by decide) hl) hM0) ?_
  refine xA tb hM0 4 [] [] rfl ?_
  refine endC_ret rfl ?_
  rfl
end Go.Proofs.YtgdehkimfmfofaaGreat

namespace Go.Proofs.YtgdehkimfmfofaaGreat
open Go.Am Go.Wb Go.Wc
set_option linter.unusedVariables false
set_option linter.unusedSimpArgs false
theorem fn8 : Fn1 Tryz.prog 8 Tryz.f8.ntmps 4 (Tryz.f8.body.getD .skip) := ⟨Tryz.f8, Tryz.func8, rfl, rfl, rfl, by kernel_rfl⟩
set_option maxRecDepth 100000 in
set_option maxHeartbeats 8000000 in
theorem language_law {l w : List Int} (hl : l.length ≤ 9223372036854775807) (h64 : I64s l) (hw : w.length ≤ 9223372036854775807) (w64 : I64s w) : CallW Tryz.prog 8 [ints l, ints w] (.p (bool true)) := by
  have sx := sm_shaped l
  have sr := sm_rev l
  have hu : (wordP w 3 9).length ≤ 9 := wordP_len w 3 9
  have b1 := sx.size
  have b2 := sx.ssize
  have b3 := sr.size
  have hlg := fun k => lg_bd sx hu k
  refine callW_of_code fn8 (Nat.le_of_ble_eq_true rfl) fun w0 M0 hM0 hdr => ?_
  refine xC tb hM0 8 [1,10] [] rfl ?_
  refine oP rfl (pure_call rfl rfl rfl (regex_call h64 hl) hM0) ?_
  refine xA tb hM0 7 [5,12] [5] rfl ?_
  refine oP rfl (pure_call rfl rfl rfl (word_call w64 (by decide) hw (by decide)) hM0) ?_
  refine xA tb hM0 7 [5,6,14,15] [5] rfl ?_
  refine oP rfl (pure_call rfl rfl rfl (match_call (r := (shapedP l 3)) (w := (wordP w 3 9)) (by omega) (by omega) (sm_match sx hu)) hM0) ?_
  refine xA tb hM0 17 [5,6,7,8,9] [5,8] rfl ?_
  refine lp (fun zm zs => ∃ k : Nat, zm = (wordP w 3 9).length - k ∧ (k ≤ (wordP w 3 9).length) ∧ zs = ⟨69, [(5, .pbox 5 0), (6, .v .pl (ints (wordP w 3 9))), (7, .v .pl (bool (matchR (shapedP l 3) (wordP w 3 9)))), (8, .pbox 8 0), (9, .v .pl (int k))], [(5, .box 25 [.v .pl (int ((shapedP l 3)).kind), .v .pl (ints ((shapedP l 3)).syms), .v .pl (.sl (Rx.avs ((shapedP l 3)).kids))]), (8, .box 25 [.v .pl (int ((lgR (shapedP l 3) (wordP w 3 9) k)).kind), .v .pl (ints ((lgR (shapedP l 3) (wordP w 3 9) k)).syms), .v .pl (.sl (Rx.avs ((lgR (shapedP l 3) (wordP w 3 9) k)).kids))])]⟩) ?_ ?_
  exact ⟨_, 0, rfl, Nat.zero_le _, rfl⟩
  rintro zm zs ⟨k, rfl, hL1_0, rfl⟩
  refine xA tb hM0 5 [5,6,7,8,9,18,19] [5,8] rfl ?_
  refine oP rfl (pure_lenm rfl Tryz.underlying22 rfl) ?_
  refine xA tb hM0 3 [5,6,7,8,9,21] [5,8] rfl ?_
  refine spC 21 rfl ?_ ?_ <;> intro h1 <;> try simp only [dq] at h1
  refine xA tb hM0 6 [5,6,7,8,9] [5,8] rfl ?_
  refine code_draw mixed (by kernel_rfl) _ rfl ?_
  refine dl_pure rfl rfl rfl (pure_load_box_agg rfl ag25 sz25 rfl rfl rfl rfl) ?_
  refine dl_pure rfl rfl rfl (pure_move rfl rfl) ?_
  refine dl_pure rfl rfl rfl (pure_move rfl rfl) ?_
  refine dl_pure rfl rfl rfl (pure_ix rfl Tryz.underlying22 sz3 rfl rfl (by omega) (fun _ => rfl)) ?_
  refine dl_pure rfl rfl rfl (pure_load rfl ag3 rfl rfl) ?_
  refine dl_pure rfl rfl rfl (pure_callN rfl rfl rfl rfl (Derive_call (r := lgR (shapedP l 3) (wordP w 3 9) k) (a := (wordP w 3 9).getD k default) (hlg k).1 (hlg k).2) hM0) ?_
  refine dl_tails (by kernel_rfl) ?_
  refine tl_step rfl (step_store_box rfl rfl rfl sz25 rfl rfl rfl rfl (by decide) rfl rfl hM0) ?_
  refine tl_nil ?_
  refine xD tb hM0 2 [5,6,7,8,9] [5,8] rfl ?_
  refine code_draw mixed (by kernel_rfl) _ rfl ?_
  refine dl_pure rfl rfl rfl (pure_load_box_agg rfl ag25 sz25 rfl rfl rfl rfl) ?_
  refine dl_pure rfl rfl rfl (pure_move rfl rfl) ?_
  refine dl_pure rfl rfl rfl (pure_move rfl rfl) ?_
  refine dl_pure rfl rfl rfl (pure_addi rfl rfl rfl (by omega)) ?_
  refine dl_pure rfl rfl rfl (pure_slice_lm rfl Tryz.underlying22 sz3 rfl rfl (by first | (simp only [ll]; omega) | omega) (fun _ => rfl)) ?_
  refine dl_pure rfl rfl rfl (pure_call rfl rfl rfl (match_call (r := (dR ((wordP w 3 9).getD k default) (simR (lgR (shapedP l 3) (wordP w 3 9) k)))) (w := ((wordP w 3 9).drop ((k : Int) + 1).toNat)) (lg_size sx hu (by omega)) (by rw [List.length_drop]; omega) (lg_mt sx hu (by omega))) hM0) ?_
  refine dl_pure rfl rfl rfl (pure_move rfl rfl) ?_
  refine dl_pure rfl rfl rfl (pure_to (b' := false) (pure_bne Tryz.underlying4 rfl rfl rfl) (ne_same (lg_is (by omega)))) ?_
  refine dl_nil ?_
  refine xD tb hM0 7 [5,6,7,8,22] [5,8] rfl ?_
  refine oP rfl (pure_addi rfl rfl rfl (by omega)) ?_
  refine xA tb hM0 2 [5,6,7,8,9] [5,8] rfl ?_
  refine nx ?_
  exact ⟨_, ⟨k + 1, rfl, by omega, by rw [← lgR_succ (by omega)]; rfl⟩, by omega⟩
  refine xA tb hM0 7 [5,6,7,8] [5,8] rfl ?_
  refine code_draw mixed (by kernel_rfl) _ rfl ?_
  refine dl_pure rfl rfl rfl (pure_load_box_agg rfl ag25 sz25 rfl rfl rfl rfl) ?_
  refine dl_pure rfl rfl rfl (pure_call rfl rfl rfl (Empty_call (r := lgR (shapedP l 3) (wordP w 3 9) k) (by have := (hlg k).1; omega)) hM0) ?_
  refine dl_pure rfl rfl rfl (pure_move rfl rfl) ?_
  refine dl_pure rfl rfl rfl (pure_to (b' := true) (pure_beq Tryz.underlying4 rfl rfl rfl) (eq_same (lg_end sx (by omega) (by omega)))) ?_
  refine dl_pure rfl rfl rfl (pure_move rfl rfl) ?_
  refine dl_pure_g rfl rfl rfl rfl rfl (pure_load_box_agg rfl ag25 sz25 rfl rfl rfl rfl) ?_
  refine dl_pure_g rfl rfl rfl rfl rfl (pure_call rfl rfl rfl (Empty_call (r := (shapedP l 3)) (by omega)) hM0) ?_
  refine dpk 69 [(5,_),(6,_),(7,_),(42,_),(44,_)] [(5,_),(8,_)] rfl rfl rfl ?_
  refine dl_pure_g rfl rfl rfl rfl rfl (pure_load_box_agg rfl ag25 sz25 rfl rfl rfl rfl) ?_
  refine dl_pure_g rfl rfl rfl rfl rfl (pure_call rfl rfl rfl (match_call (r := (shapedP l 3)) (w := []) (by omega) (by decide) (sm_match sx (by decide))) hM0) ?_
  refine dl_pure_g rfl rfl rfl rfl rfl (pure_to (b' := true) (pure_beq Tryz.underlying4 rfl rfl rfl) (eq_same (sm_empty sx))) ?_
  refine dl_pure rfl rfl rfl (pure_to (b' := true) (pure_pick_t rfl rfl rfl rfl) (by decide)) ?_
  refine dl_pure rfl rfl rfl (pure_move rfl rfl) ?_
  refine dl_pure_g rfl rfl rfl rfl rfl (pure_load_box_agg rfl ag25 sz25 rfl rfl rfl rfl) ?_
  refine dl_pure_g rfl rfl rfl rfl rfl (pure_call rfl rfl rfl (simS_call (r := (shapedP l 3)) (by omega)) hM0) ?_
  refine dpk 69 [(5,_),(6,_),(7,_),(49,_),(51,_)] [(5,_),(8,_)] rfl rfl rfl ?_
  refine dl_pure_g rfl rfl rfl rfl rfl (pure_move rfl rfl) ?_
  refine dl_pure_g rfl rfl rfl rfl rfl (pure_call rfl rfl rfl (match_call (r := simR (shapedP l 3)) (w := (wordP w 3 9)) (by omega) (by omega) (sm_match (sm_sim sx) hu)) hM0) ?_
  refine dl_pure_g rfl rfl rfl rfl rfl (pure_move rfl rfl) ?_
  refine dl_pure_g rfl rfl rfl rfl rfl (pure_to (b' := true) (pure_beq Tryz.underlying4 rfl rfl rfl) (eq_same (match_sim _))) ?_
  refine dl_pure rfl rfl rfl (pure_to (b' := true) (pure_pick_t rfl rfl rfl rfl) (by decide)) ?_
  refine dl_pure rfl rfl rfl (pure_move rfl rfl) ?_
  refine dl_pure_g rfl rfl rfl rfl rfl (pure_load_box_agg rfl ag25 sz25 rfl rfl rfl rfl) ?_
  refine dpk 69 [(6,_),(7,_),(57,_),(58,_)] [(5,_),(8,_)] rfl rfl rfl ?_
  refine dl_pure_g rfl rfl rfl rfl rfl (pure_call rfl rfl rfl (revS_call (r := (shapedP l 3)) (by omega)) hM0) ?_
  refine dl_pure_g rfl rfl rfl rfl rfl (pure_move rfl rfl) ?_
  refine dl_pure_g rfl rfl rfl rfl rfl (pure_call rfl rfl rfl (turned_call (w := (wordP w 3 9)) (by omega)) hM0) ?_
  refine dl_pure_g rfl rfl rfl rfl rfl (pure_call rfl rfl rfl (match_call (r := revR (shapedP l 3)) (w := (wordP w 3 9).reverse) (by omega) (by rw [List.length_reverse]; omega) (sm_match sr (by rw [List.length_reverse]; exact hu))) hM0) ?_
  refine dl_pure_g rfl rfl rfl rfl rfl (pure_move rfl rfl) ?_
  refine dl_pure_g rfl rfl rfl rfl rfl (pure_to (b' := true) (pure_beq Tryz.underlying4 rfl rfl rfl) (eq_same (lg_rev sx _))) ?_
  refine dl_pure rfl rfl rfl (pure_to (b' := true) (pure_pick_t rfl rfl rfl rfl) (by decide)) ?_
  refine dpk 69 [(65,_)] [(5,_),(8,_)] rfl rfl rfl ?_
  refine dl_pure rfl rfl rfl (pure_move rfl rfl) ?_
  refine dl_pure_g rfl rfl rfl rfl rfl (pure_to (b' := true) (pure_callW (r := .p (bool true)) hdr rfl rfl rfl (lives_call) hM0) (rfl)) ?_
  refine dl_pure rfl rfl rfl (pure_to (b' := true) (pure_pick_t rfl rfl rfl rfl) (by decide)) ?_
  refine dl_pure rfl rfl rfl (pure_assign rfl rfl) ?_
  refine dl_nil ?_
  refine xD tb hM0 2 [] [] rfl ?_
  refine end_ret rfl ?_
  rfl
end Go.Proofs.YtgdehkimfmfofaaGreat

namespace Go.Proofs.YtgdehkimfmfofaaGreat
open Go.Am Go.Wb Go.Wc
set_option linter.unusedVariables false
set_option linter.unusedSimpArgs false
/-! The statement RegexLanguageSaid. -/
namespace regexLanguage
open Go.ChangeShapes Go.WideShapes Go.ChangeAt Go.RowKit Go.Am
theorem own : ownKnob Tryz.prog.godebug = none := by kernel_rfl
set_option maxRecDepth 100000 in
theorem lifted (os : Os) (started : os.Started) (H : Type) (enc : TypeId × Value → H) :
    ReturnsInHanded {} Tryz.checked os 8 .any (Rows.regexLanguageSpec.pre6 enc Tryz.prog Tryz.f8 Rows.regexLanguageRow.domain false) (Rows.regexLanguageSpec.post enc Tryz.prog Tryz.f8 false true false false) := by
  refine returnsInHanded_of_change (C := Tryz.checked) own started (by kernel_rfl) Tryz.func8
    (ChangeSpec.witness6 (enc := enc) (C := Tryz.checked) false ⟨#[], #[.slice none 0 0, .slice none 0 0], []⟩ 8 (by kernel_rfl) (by kernel_rfl) (by kernel_rfl) (by kernel_rfl)) ?_
  intro W base args ds gs before hval0 hW hcnd _
  have hval : ∀ (j : Nat) t v, Tryz.f8.params[j]? = some t → args[j]? = some v → Value.okWide Tryz.prog W .any base t v := hval0
  have hW' := hW
  obtain ⟨p, q, hA0, hV, rfl, hfz, hnd⟩ := hW
  have hA : DataW.TrodAll enc Tryz.prog W 0 (fun _ => true) true Tryz.f8.params.toList args.toList ds p := hA0
  rw [Tryz.params8] at hA hval
  obtain ⟨v0, vs0, d0, ds0, p0, q0, hargs, rfl, rfl, h0, r0⟩ := trodAll_cons hA
  obtain ⟨v1, vs1, d1, ds1, p1, q1, rfl, rfl, rfl, h1, r1⟩ := trodAll_cons r0
  obtain ⟨rfl, rfl, rfl⟩ := trodAll_nil r1
  obtain rfl : args = #[v0, v1] := by cases args; simp_all
  obtain ⟨x0, y0, z0, e0⟩ := open_intsA Tryz.underlying22 Tryz.underlying3 sz3 (hval 0 22 v0 rfl rfl) h0
  obtain ⟨x1, y1, z1, e1⟩ := open_intsA Tryz.underlying22 Tryz.underlying3 sz3 (hval 1 22 v1 rfl rfl) h1
  have hcall := (language_law z0 y0 z1 y1).use (w := W) (vs := [v0, v1]) ⟨e0, e1, trivial⟩
  exact law_post (tb := 4) (by kernel_rfl) (by kernel_rfl) (by kernel_rfl) Tryz.underlying4 rfl rfl hW' hcall
theorem over : Rows.regexLanguageRow.holds Tryz.pinned (OpenSpec.ofChange Rows.regexLanguageSpec) :=
  OpenClaim.holds_of_wide 8 Tryz.f8 rfl rfl rfl rfl rfl rfl rfl ⟨rfl, rfl, rfl, rfl, rfl⟩ rfl rfl rfl rfl rfl (by kernel_rfl) Tryz.func8 (by kernel_rfl)
    (of_decide_eq_true (by kernel_rfl)) (by unfold Func.isWrapper; first | (rw [if_pos (by decide +kernel)]; kernel_rfl) | (rw [if_neg (by decide +kernel)]; exact ⟨rfl, rfl⟩))
    (fun os started H enc _ => lifted os started H enc)
end regexLanguage
theorem regexLanguage_holds : Rows.RegexLanguageSaid := regexLanguage.over
end Go.Proofs.YtgdehkimfmfofaaGreat

