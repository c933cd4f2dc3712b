/-
  Contracts: sequences of the reference, and putting into a sorted list.
-/
import Derived.Test.YtgdehkimfmfofaaGreatJ30
import Derived.Test.YtgdehkimfmfofaaGreatJ33
import Derived.Test.YtgdehkimfmfofaaGreatJ25
import Derived.Test.YtgdehkimfmfofaaGreatJ18
import Derived.Test.YtgdehkimfmfofaaGreatJ24
import Derived.Test.YtgdehkimfmfofaaGreatJ19
set_option linter.unusedVariables false
set_option linter.unusedSimpArgs false
namespace Go.Proofs.YtgdehkimfmfofaaGreat
open Go.Am Go.Wb Go.Wc
set_option linter.unusedVariables false
set_option linter.unusedSimpArgs false
theorem fn53 : Fn1 Tryz.prog 53 Tryz.f53.ntmps 0 (Tryz.f53.body.getD .skip) := ⟨Tryz.f53, Tryz.func53, rfl, rfl, rfl, by kernel_rfl⟩
set_option maxRecDepth 100000 in
theorem abc_call : CallF Tryz.prog 53 [] (.p (letters abcL)) := by
  refine callF_of_code fn53 (Nat.le_of_ble_eq_true rfl) fun w0 M0 hM0 => ?_
  refine xC tb hM0 10 [1,2,3] [] rfl ?_
  refine oP rfl (pure_lit rfl Tryz.underlying39 el83 rfl rfl rfl rfl hM0) ?_
  refine xA tb hM0 4 [] [] rfl ?_
  refine end_ret rfl ?_
  rfl
theorem lvp {s : List UInt8} (hs : s.length ≤ 100) : CallF Tryz.prog 32 [sbytes s, letters abcL, .sl []] (.p (.tup [rx (parseP abcL [] s).1, int (parseP abcL [] s).2])) :=
  parse_call (sets := []) (by omega) (by decide) (by decide) (by decide) (by decide)
theorem lvp1 : CallF Tryz.prog 32 [sbytes [97, 40, 98, 124, 99, 41, 42], letters abcL, .sl []] (.p (.tup [rx xL, int (-1)])) := by
  have h := lvp (s := [97, 40, 98, 124, 99, 41, 42]) (by decide)
  rw [liv1] at h; exact h
theorem lvp2 : CallF Tryz.prog 32 [sbytes [97, 41], letters abcL, .sl []] (.p (.tup [rx (parseP abcL [] [97, 41]).1, int 1])) := by
  have h := lvp (s := [97, 41]) (by decide)
  rw [liv2] at h; exact h
theorem lvp3 : CallF Tryz.prog 32 [sbytes [40, 97], letters abcL, .sl []] (.p (.tup [rx (parseP abcL [] [40, 97]).1, int 2])) := by
  have h := lvp (s := [40, 97]) (by decide)
  rw [liv3] at h; exact h
theorem lvp4 : CallF Tryz.prog 32 [sbytes [97, 42, 98, 124, 42], letters abcL, .sl []] (.p (.tup [rx (parseP abcL [] [97, 42, 98, 124, 42]).1, int 4])) := by
  have h := lvp (s := [97, 42, 98, 124, 42]) (by decide)
  rw [liv4] at h; exact h
theorem lv_print : CallW Tryz.prog 35 [rx xL, letters abcL] (.p (sbytes [97, 40, 98, 124, 99, 41, 42])) := by
  have h := print_call (a := abcL) (r := xL) (by decide) (by decide) (by decide)
  rw [liv5] at h; exact h
theorem lv_d0 : CallN Tryz.prog 24 [rx xL, int 0] (.p (rx restL)) := by
  have h := Derive_call (r := xL) (a := 0) (by decide) (by decide +kernel)
  rw [liv6] at h; exact h
theorem lv_d1 : CallN Tryz.prog 24 [rx xL, int 1] (.p (rx noneRx)) := by
  have h := Derive_call (r := xL) (a := 1) (by decide) (by decide +kernel)
  rw [liv7] at h; exact h
theorem lv_s : CallF Tryz.prog 19 [rx (.mk 4 [] [emptyRx, restL])] (.p (rx restL)) := by
  have h := simS_call (r := .mk 4 [] [emptyRx, restL]) (by decide)
  rw [liv8] at h; exact h
theorem lv_r : CallF Tryz.prog 21 [rx xL] (.p (rx zL)) := by
  have h := revS_call (r := xL) (by decide)
  rw [liv9] at h; exact h
theorem lv_m1 : CallF Tryz.prog 28 [rx xL, ints [0, 1, 2, 1]] (.p (bool true)) := by
  have h := match_call (r := xL) (w := [0, 1, 2, 1]) (by decide) (by decide) (by decide +kernel)
  rw [liv10] at h; exact h
theorem lv_m2 : CallF Tryz.prog 28 [rx xL, ints [1]] (.p (bool false)) := by
  have h := match_call (r := xL) (w := [1]) (by decide) (by decide) (by decide +kernel)
  rw [liv11] at h; exact h
theorem fn23 : Fn1 Tryz.prog 23 Tryz.f23.ntmps 0 (Tryz.f23.body.getD .skip) := ⟨Tryz.f23, Tryz.func23, rfl, rfl, rfl, by kernel_rfl⟩
set_option maxRecDepth 100000 in
set_option maxHeartbeats 8000000 in
theorem lives_call : CallW Tryz.prog 23 [] (.p (bool true)) := by
  refine callW_of_code fn23 (Nat.le_of_ble_eq_true rfl) fun w0 M0 hM0 hdr => ?_
  refine xC tb hM0 7 [] [] rfl ?_
  refine oP rfl (pure_call rfl rfl rfl (abc_call) hM0) ?_
  refine xA tb hM0 6 [1,15] [] rfl ?_
  refine oP rfl (pure_call rfl rfl rfl (lvp1) hM0) ?_
  refine xA tb hM0 10 [1,2,3] [2] rfl ?_
  refine oP rfl (pure_lit rfl Tryz.underlying22 el3 rfl rfl rfl rfl hM0) ?_
  refine oP rfl (pure_callN rfl rfl rfl rfl (one_call [1, 2]) hM0) ?_
  refine xA tb hM0 0 [1,2,3,20] [2] rfl ?_
  refine oP rfl (pure_lit rfl Tryz.underlying23 el25 rfl rfl rfl rfl hM0) ?_
  refine oP rfl (pure_callN rfl rfl rfl rfl (of_call 5 [oneR [1, 2]]) hM0) ?_
  refine xA tb hM0 6 [1,2,3,4] [2,4] rfl ?_
  refine code_draw mixed (by kernel_rfl) _ rfl ?_
  refine dl_pure rfl rfl rfl (pure_move rfl rfl) ?_
  refine dl_pure rfl rfl rfl (pure_to (b' := false) (pure_neq rfl rfl rfl) (by decide)) ?_
  refine dl_pure rfl rfl rfl (pure_move rfl rfl) ?_
  refine dl_pure_g rfl rfl rfl rfl rfl (pure_load_box_agg rfl ag25 sz25 rfl rfl rfl rfl) ?_
  refine dl_pure_g rfl rfl rfl rfl rfl (pure_lit rfl Tryz.underlying22 el3 rfl rfl rfl rfl hM0) ?_
  refine dl_pure_g rfl rfl rfl rfl rfl (pure_callN rfl rfl rfl rfl (one_call [0]) hM0) ?_
  refine dl_pure_g rfl rfl rfl rfl rfl (pure_load_box_agg rfl ag25 sz25 rfl rfl rfl rfl) ?_
  refine dpk 123 [(1,_),(2,_),(4,_),(25,_),(26,_),(28,_),(29,_)] [(2,_),(4,_)] rfl rfl rfl ?_
  refine dl_pure_g rfl rfl rfl rfl rfl (pure_lit rfl Tryz.underlying23 el25 rfl rfl rfl rfl hM0) ?_
  refine dl_pure_g rfl rfl rfl rfl rfl (pure_callN rfl rfl rfl rfl (of_call 3 [oneR [0], restL]) hM0) ?_
  refine dl_pure_g rfl rfl rfl rfl rfl (pure_callb (b' := true) rfl rfl rfl (same_call (a := xL) (b := xL) (by decide) (by decide)) hM0 (by kernel_rfl)) ?_
  refine dl_pure_g rfl rfl rfl rfl rfl (pure_not rfl rfl) ?_
  refine dl_pure rfl rfl rfl (pure_pick_f rfl rfl rfl rfl) ?_
  refine dl_nil ?_
  refine xD tb hM0 7 [1,2,4,36] [2,4] rfl ?_
  refine oP rfl (pure_call rfl rfl rfl (lvp2) hM0) ?_
  refine xA tb hM0 11 [1,2,4,6,41] [2,4] rfl ?_
  refine oP rfl (pure_call rfl rfl rfl (lvp3) hM0) ?_
  refine xA tb hM0 11 [1,2,4,6,8,46] [2,4] rfl ?_
  refine oP rfl (pure_call rfl rfl rfl (lvp4) hM0) ?_
  refine xA tb hM0 12 [1,2,4,8,10,50] [2,4] rfl ?_
  refine oP rfl (pure_to (b' := false) (pure_neq rfl rfl rfl) (by decide)) ?_
  refine xA tb hM0 2 [1,2,4,10,52,53] [2,4] rfl ?_
  refine oP rfl (pure_to (b' := false) (pure_neq rfl rfl rfl) (by decide)) ?_
  refine xA tb hM0 3 [1,2,4,56,57] [2,4] rfl ?_
  refine oP rfl (pure_to (b' := false) (pure_neq rfl rfl rfl) (by decide)) ?_
  refine xA tb hM0 4 [2,4,60,61,62] [2,4] rfl ?_
  refine oP rfl (pure_callW hdr rfl rfl rfl (lv_print) hM0) ?_
  refine oP rfl (pure_to (b' := false) (pure_sneq rfl rfl rfl) (by decide)) ?_
  refine xA tb hM0 3 [2,4,66,67] [2,4] rfl ?_
  refine oP rfl (pure_callb (b' := true) rfl rfl rfl (valid_call _ xL (Nat.le_refl _) (by decide)) hM0 (liv12)) ?_
  refine xA tb hM0 4 [2,4,71,72] [2,4] rfl ?_
  refine oP rfl (pure_callb (b' := false) rfl rfl rfl (Empty_call (r := xL) (by decide)) hM0 (by kernel_rfl)) ?_
  refine xA tb hM0 3 [2,4,75,76] [2,4] rfl ?_
  refine oP rfl (pure_callb (b' := true) rfl rfl rfl (Empty_call (r := restL) (by decide)) hM0 (by kernel_rfl)) ?_
  refine xA tb hM0 9 [2,4] [2,4] rfl ?_
  refine code_draw mixed (by kernel_rfl) _ rfl ?_
  refine dl_pure rfl rfl rfl (pure_load_box_agg rfl ag25 sz25 rfl rfl rfl rfl) ?_
  refine dl_pure rfl rfl rfl (pure_callN rfl rfl rfl rfl (lv_d0) hM0) ?_
  refine dl_pure rfl rfl rfl (pure_load_box_agg rfl ag25 sz25 rfl rfl rfl rfl) ?_
  refine dl_pure rfl rfl rfl (pure_callb (b' := true) rfl rfl rfl (same_call (a := restL) (b := restL) (by decide) (by decide)) hM0 (by kernel_rfl)) ?_
  refine dl_pure rfl rfl rfl (pure_not rfl rfl) ?_
  refine dl_pure rfl rfl rfl (pure_move rfl rfl) ?_
  refine dl_pure_g rfl rfl rfl rfl rfl (pure_load_box_agg rfl ag25 sz25 rfl rfl rfl rfl) ?_
  refine dpk 123 [(2,_),(4,_),(85,_),(86,_)] [(2,_),(4,_)] rfl rfl rfl ?_
  refine dl_pure_g rfl rfl rfl rfl rfl (pure_callN rfl rfl rfl rfl (lv_d1) hM0) ?_
  refine dl_pure_g rfl rfl rfl rfl rfl (pure_fieldv rfl fd25_0 rfl rfl) ?_
  refine dl_pure_g rfl rfl rfl rfl rfl (pure_to (b' := false) (pure_neq rfl rfl rfl) (by decide)) ?_
  refine dl_pure rfl rfl rfl (pure_pick_f rfl rfl rfl rfl) ?_
  refine dl_nil ?_
  refine xD tb hM0 6 [2,4] [2,4] rfl ?_
  refine oP rfl (pure_norm (pure_build rfl pl25 ze25 rfl rfl rfl) rfl) ?_
  refine xA tb hM0 1 [2,4,91,92] [2,4] rfl ?_
  refine oP rfl (pure_lit rfl Tryz.underlying23 el25 rfl rfl rfl rfl hM0) ?_
  refine oP rfl (pure_callN rfl rfl rfl rfl (of_call 4 [emptyRx, restL]) hM0) ?_
  refine xA tb hM0 0 [2,4,94] [2,4] rfl ?_
  refine oP rfl (pure_call rfl rfl rfl (lv_s) hM0) ?_
  refine xA tb hM0 7 [2,4,11,96] [2,4,11] rfl ?_
  refine oP rfl (pure_call rfl rfl rfl (lv_r) hM0) ?_
  refine xA tb hM0 8 [2,12,98,99] [2,12] rfl ?_
  refine oP rfl (pure_callb (b' := true) rfl rfl rfl (same_call (a := restL) (b := restL) (by decide) (by decide)) hM0 (by kernel_rfl)) ?_
  refine xA tb hM0 2 [2,12,101,102] [2,12] rfl ?_
  refine oP rfl (pure_lit rfl Tryz.underlying22 el3 rfl rfl rfl rfl hM0) ?_
  refine oP rfl (pure_callb (b' := true) rfl rfl rfl (lv_m1) hM0 (rfl)) ?_
  refine xA tb hM0 3 [12,106,107] [12] rfl ?_
  refine oP rfl (pure_lit rfl Tryz.underlying22 el3 rfl rfl rfl rfl hM0) ?_
  refine oP rfl (pure_callb (b' := false) rfl rfl rfl (lv_m2) hM0 (rfl)) ?_
  refine xA tb hM0 5 [12,112,114] [12] rfl ?_
  refine oP rfl (pure_to (b' := true) (pure_eql rfl rfl rfl) (by decide)) ?_
  refine xA tb hM0 4 [117,119] [] rfl ?_
  refine oP rfl (pure_len rfl Tryz.underlying23 rfl) ?_
  refine oP rfl (pure_to (b' := true) (pure_eql rfl rfl rfl) (by decide)) ?_
  refine xA tb hM0 5 [] [] rfl ?_
  refine end_ret rfl ?_
  rfl
end Go.Proofs.YtgdehkimfmfofaaGreat

namespace Go.Proofs.YtgdehkimfmfofaaGreat
open Go.Am Go.Wb Go.Wc
set_option linter.unusedVariables false
set_option linter.unusedSimpArgs false
theorem same_eq {a b : Rx} (h : a = b) : decide (cmpR a b = 0) = true := by rw [h, cmpR_self]; rfl
end Go.Proofs.YtgdehkimfmfofaaGreat

namespace Go.Proofs.YtgdehkimfmfofaaGreat
open Go.Am Go.Wb
set_option linter.unusedVariables false
set_option linter.unusedSimpArgs false
theorem fn81 : FnC Tryz.prog 81 Tryz.f81.ntmps 2 25 3 (Tryz.f81.body.getD .skip) := ⟨Tryz.f81, Tryz.func81, rfl, rfl, rfl, by kernel_rfl, ag25, sz25⟩
set_option maxRecDepth 100000 in
set_option maxHeartbeats 4000000 in
theorem rseq_call {l : List Rx} (hs : Rx.sizes l ≤ 1099511627776) : CallN Tryz.prog 81 [rxs l] (.p (rx (seqN l))) := by
  have hl := sizes_len l
  refine callN_of_codeC fn81 (Nat.le_of_ble_eq_true rfl) fun w0 M0 hM0 => ?_
  refine xC tb hM0 7 [0,2] [2] rfl ?_
  refine oS rfl (step_nil rfl rfl rfl rfl rfl 25 hM0) rfl ?_
  refine xA tb hM0 9 [0,2,3,4] [2,3] rfl ?_
  refine lp (fun zm zs => ∃ i : Nat, zm = l.length - i ∧ (i ≤ l.length) ∧ (∀ j, j < i → (l.getD j default).kind ≠ 0) ∧ zs = ⟨56, [(0, .v .pl (rxs l)), (2, .pbox 2 0), (3, .own 3), (4, .v .pl (int i))], [(2, .box 25 [.v .pl (.sc (.int .i64 0)), .v .pl (.sc (.slice none 0 0)), .v .pl (.sc (.slice none 0 0))]), (3, .arr 25 ((seqL (l.take i)).map rx))]⟩) ?_ ?_
  exact ⟨_, 0, rfl, Nat.zero_le _, fun j hj => absurd hj (by omega), rfl⟩
  rintro zm zs ⟨i, rfl, hL1_0, hL1_1, rfl⟩
  have hroom := fun h => seqL_room (l := l) (i := i) h
  refine xA tb hM0 5 [0,2,3,4,5,6] [2,3] rfl ?_
  refine oP rfl (pure_lenm rfl Tryz.underlying23 rfl) ?_
  refine xA tb hM0 3 [0,2,3,4,8] [2,3] rfl ?_
  refine spC 8 rfl ?_ ?_ <;> intro h1 <;> try simp only [dq] at h1
  refine xA tb hM0 10 [0,2,3,4,11,12] [2,3] rfl ?_
  refine oP rfl (pure_ix rfl Tryz.underlying23 sz25 rfl rfl (by omega) (fun _ => rfl)) ?_
  refine xA tb hM0 5 [0,2,3,4,16] [2,3] rfl ?_
  refine spC 16 rfl ?_ ?_ <;> intro h2 <;> try simp only [dq] at h2
  refine xA tb hM0 14 [] [] rfl ?_
  refine endC_ret rfl ?_; rotate_left
  refine xA tb hM0 7 [0,2,3,4,18,19] [2,3] rfl ?_
  refine oP rfl (pure_ix rfl Tryz.underlying23 sz25 rfl rfl (by omega) (fun _ => rfl)) ?_
  refine xA tb hM0 5 [0,2,3,4,23] [2,3] rfl ?_
  refine spC 23 rfl ?_ ?_ <;> intro h3 <;> try simp only [dq] at h3
  refine xA tb hM0 1 [0,2,3,4] [2,3] rfl ?_
  have hr := hroom (by omega)
  refine xA tb hM0 4 [0,2,4,24,25,26] [2,3] rfl ?_
  refine oP rfl (pure_ix rfl Tryz.underlying23 sz25 rfl rfl (by omega) (fun _ => rfl)) ?_
  refine xA tb hM0 2 [0,2,4,24,29] [2,3] rfl ?_
  refine oS rfl (step_append rfl rfl rfl rfl Tryz.underlying23 el25 rfl rfl hM0 (src_avs (l := (l.getD i default).kids) rfl) (by first | (simp only [ll]; omega) | omega) (by first | (simp only [ll]; omega) | omega)) rfl ?_
  refine xA tb hM0 6 [0,2,3,9] [2,3] rfl ?_
  refine oP rfl (pure_addi rfl rfl rfl (by omega)) ?_
  refine xA tb hM0 2 [0,2,3,4] [2,3] rfl ?_
  refine nx ?_; rotate_left
  refine xA tb hM0 5 [0,2,3,4,31,32] [2,3] rfl ?_
  refine oP rfl (pure_ix rfl Tryz.underlying23 sz25 rfl rfl (by omega) (fun _ => rfl)) ?_
  refine xA tb hM0 5 [0,2,3,4,36] [2,3] rfl ?_
  refine spC 36 rfl ?_ ?_ <;> intro h4 <;> try simp only [dq] at h4
  refine xA tb hM0 1 [0,2,3,4] [2,3] rfl ?_
  have hr := hroom (by omega)
  refine xA tb hM0 4 [0,2,4,37,38,39] [2,3] rfl ?_
  refine oP rfl (pure_ix rfl Tryz.underlying23 sz25 rfl rfl (by omega) (fun _ => rfl)) ?_
  refine xA tb hM0 1 [0,2,4,37,41] [2,3] rfl ?_
  refine oP rfl (pure_lit rfl Tryz.underlying23 el25 rfl rfl rfl rfl hM0) ?_
  refine oS rfl (step_append rfl rfl rfl rfl Tryz.underlying23 el25 rfl rfl hM0 (src_pl rfl (one_len (by rfl))) (by first | (simp only [ll]; omega) | omega) (by first | (simp only [ll]; omega) | omega)) rfl ?_
  refine xA tb hM0 6 [0,2,3,9] [2,3] rfl ?_
  refine oP rfl (pure_addi rfl rfl rfl (by omega)) ?_
  refine xA tb hM0 2 [0,2,3,4] [2,3] rfl ?_
  refine nx ?_; rotate_left
  refine xA tb hM0 6 [0,2,3,9] [2,3] rfl ?_
  refine oP rfl (pure_addi rfl rfl rfl (by omega)) ?_
  refine xA tb hM0 2 [0,2,3,4] [2,3] rfl ?_
  refine nx ?_; rotate_left
  refine xA tb hM0 10 [2,3,44] [2,3] rfl ?_
  refine oP rfl (pure_lenm rfl Tryz.underlying23 rfl) ?_
  refine xA tb hM0 3 [2,3,46] [2,3] rfl ?_
  refine spC 46 rfl ?_ ?_ <;> intro h5 <;> try simp only [dq] at h5
  refine xA tb hM0 9 [] [] rfl ?_
  refine endC_ret rfl ?_; rotate_left
  refine xA tb hM0 5 [2,3] [2,3] rfl ?_
  refine code_frz 56 [(2, _), (3, _)] [(2, _)] hM0 rfl ⟨.inl rfl, .inr ⟨_, _, rfl, rfl, rfl⟩, trivial⟩ ⟨rfl, trivial⟩ ?_
  refine xK tb hM0 2 [2,3,48] [2] rfl ?_
  refine oP rfl (pure_lenm rfl Tryz.underlying23 rfl) ?_
  refine xA tb hM0 3 [2,3,50] [2] rfl ?_
  refine spC 50 rfl ?_ ?_ <;> intro h6 <;> try simp only [dq] at h6
  refine xA tb hM0 4 [2,51] [2] rfl ?_
  refine oP rfl (pure_ix rfl Tryz.underlying23 sz25 rfl rfl (by omega) (fun _ => rfl)) ?_
  refine xA tb hM0 6 [] [] rfl ?_
  refine endC_ret rfl ?_; rotate_left
  refine xA tb hM0 6 [2,54] [2] rfl ?_
  refine oP rfl (pure_callN rfl rfl rfl rfl (of_call 3 (seqL (l.take i))) hM0) ?_
  refine xA tb hM0 4 [] [] rfl ?_
  refine endC_ret rfl ?_; rotate_left
  all_goals first
   | (
     first | (rw [seqN_none (i := i) (by omega) (by omega)]; rfl) | (rw [seqN_some (fun j hj => hL1_1 j (by omega))]; rw [show seqL l = seqL (l.take i) by rw [List.take_of_length_le (by omega)]]; first | (rw [seqE_0 (by omega)]; first | done | rfl) | (rw [seqE_1 (by omega)]; first | done | rfl) | (rw [seqE_2 (by omega) (by omega)]; first | done | rfl) | (rw [seqE_2 (by omega) (by omega), rx_mk]; rfl)); done)
   | (
     exact ⟨_, ⟨i + 1, rfl, by omega, all_step hL1_1 (by omega), by rw [seqL_succ (by omega)]; first | (rw [seqF_1 (by omega), List.append_nil]; rfl) | (rw [seqF_3 (by omega), List.map_append]; rfl) | (rw [seqF_x (by omega) (by omega), List.map_append]; rfl)⟩, by omega⟩; done)
theorem fn118 : Fn1 Tryz.prog 118 Tryz.f118.ntmps 4 (Tryz.f118.body.getD .skip) := ⟨Tryz.f118, Tryz.func118, rfl, rfl, rfl, by kernel_rfl⟩
set_option maxRecDepth 100000 in
set_option maxHeartbeats 4000000 in
theorem rput_call {l : List Rx} {x : Rx} (hs : Rx.sizes l ≤ 549755813888) (hx : x.size ≤ 549755813888) : CallN Tryz.prog 118 [rxs l, rx x] (.p (rxs (rput l x))) := by
  have hl := sizes_len l
  have hk := fun k (h : k < l.length) => size_mem (kid_mem h)
  refine callN_of_code fn118 (Nat.le_of_ble_eq_true rfl) fun w0 M0 hM0 => ?_
  refine xC tb hM0 2 [0,1] [] rfl ?_
  refine oP rfl (pure_box rfl rfl rfl hM0) ?_
  refine xA tb hM0 10 [0,3,5] [] rfl ?_
  refine lp (fun zm zs => ∃ k : Nat, zm = l.length - k ∧ (k ≤ l.length) ∧ (∀ j, j < k → cmpR (l.getD j default) x < 0) ∧ zs = ⟨48, [(0, .v .pl (rxs l)), (3, .v .pl (.pc [int (x).kind, ints (x).syms, .sl (Rx.avs (x).kids)] 0)), (5, .v .pl (int k))], []⟩) ?_ ?_
  exact ⟨_, 0, rfl, Nat.zero_le _, fun j hj => absurd hj (by omega), rfl⟩
  rintro zm zs ⟨k, rfl, hL1_0, hL1_1, rfl⟩
  refine xA tb hM0 2 [0,3,5] [] rfl ?_
  refine code_draw mixed (by kernel_rfl) _ rfl ?_
  refine dl_pure rfl rfl rfl (pure_move rfl rfl) ?_
  refine dl_pure rfl rfl rfl (pure_move rfl rfl) ?_
  refine dl_pure rfl rfl rfl (pure_lenm rfl Tryz.underlying23 rfl) ?_
  refine dl_pure rfl rfl rfl (pure_lss rfl rfl rfl) ?_
  refine dl_pure rfl rfl rfl (pure_move rfl rfl) ?_
  refine dl_guard rfl (fun h1 => ?_) (fun h1 => ?_)
  have h1' := h1; try simp only [dq] at h1'
  refine dl_pure_g rfl rfl h1 rfl rfl (pure_move rfl rfl) ?_
  refine dl_pure_g rfl rfl h1 rfl rfl (pure_move rfl rfl) ?_
  refine dpk 48 [(0,_),(3,_),(5,_),(11,_),(12,_),(13,_)] [] rfl rfl rfl ?_
  refine dl_pure_g rfl rfl h1 rfl rfl (pure_ix rfl Tryz.underlying23 sz25 rfl rfl (by omega) (fun _ => rfl)) ?_
  refine dl_pure_g rfl rfl h1 rfl rfl (pure_load_agg rfl ag25 sz25 rfl (Nat.le_of_ble_eq_true rfl)) ?_
  refine dl_pure_g rfl rfl h1 rfl rfl (pure_load_agg rfl ag25 sz25 rfl (Nat.le_of_ble_eq_true rfl)) ?_
  refine dl_pure_g rfl rfl h1 rfl rfl (pure_call rfl rfl rfl (rcompare_call _ (l.getD k default) x (Nat.le_refl _) (by have := hk k (by omega); omega) (by omega)) hM0) ?_
  refine dl_pure_g rfl rfl h1 rfl rfl (pure_lss rfl rfl rfl) ?_
  refine dl_pure rfl rfl rfl (pure_pick_t rfl rfl h1 rfl) ?_
  refine dl_nil ?_
  refine xD tb hM0 1 [0,3,5,19] [] rfl ?_
  refine spC 19 rfl ?_ ?_ <;> intro h2 <;> try simp only [dq] at h2
  refine xA tb hM0 6 [0,3,20] [] rfl ?_
  refine oP rfl (pure_addi rfl rfl rfl (by omega)) ?_
  refine xA tb hM0 3 [0,3,5] [] rfl ?_
  refine nx ?_
  exact ⟨_, ⟨k + 1, rfl, by omega, all_step hL1_1 (by omega), rfl⟩, by omega⟩
  refine xA tb hM0 8 [0,3,5] [] rfl ?_
  refine code_draw mixed (by kernel_rfl) _ rfl ?_
  refine dl_pure rfl rfl rfl (pure_move rfl rfl) ?_
  refine dl_pure rfl rfl rfl (pure_move rfl rfl) ?_
  refine dl_pure rfl rfl rfl (pure_lenm rfl Tryz.underlying23 rfl) ?_
  refine dl_pure rfl rfl rfl (pure_lss rfl rfl rfl) ?_
  refine dl_pure rfl rfl rfl (pure_move rfl rfl) ?_
  refine dl_guard rfl (fun h3 => ?_) (fun h3 => ?_)
  have h3' := h3; try simp only [dq] at h3'
  refine dl_pure_g rfl rfl h3 rfl rfl (pure_move rfl rfl) ?_
  refine dl_pure_g rfl rfl h3 rfl rfl (pure_move rfl rfl) ?_
  refine dpk 48 [(0,_),(3,_),(5,_),(26,_),(27,_),(28,_)] [] rfl rfl rfl ?_
  refine dl_pure_g rfl rfl h3 rfl rfl (pure_ix rfl Tryz.underlying23 sz25 rfl rfl (by omega) (fun _ => rfl)) ?_
  refine dl_pure_g rfl rfl h3 rfl rfl (pure_load_agg rfl ag25 sz25 rfl (Nat.le_of_ble_eq_true rfl)) ?_
  refine dl_pure_g rfl rfl h3 rfl rfl (pure_load_agg rfl ag25 sz25 rfl (Nat.le_of_ble_eq_true rfl)) ?_
  refine dl_pure_g rfl rfl h3 rfl rfl (pure_call rfl rfl rfl (same_call (a := l.getD k default) (b := x) (by have := hk k (by omega); omega) (by omega)) hM0) ?_
  refine dl_pure rfl rfl rfl (pure_pick_t rfl rfl h3 rfl) ?_
  refine dl_nil ?_
  refine xD tb hM0 1 [0,3,5,33] [] rfl ?_
  refine spC 33 rfl ?_ ?_ <;> intro h4 <;> try simp only [dq] at h4
  refine xA tb hM0 9 [] [] rfl ?_
  refine end_ret rfl ?_; rotate_left
  refine xA tb hM0 9 [0,3,5,6] [] rfl ?_
  refine code_draw1 (n := 48) (o2 := [(39, .arr 25 ((l.take k).map rx))]) 4 7 [(35, .v .pl (.sc (.slice none 0 0))), (36, .v .pl (rxs l)), (37, .v .pl (int k)), (38, .v .pl (rxs (l.take k))), (39, .own 39), (40, .v .pl (.agg [int x.kind, ints x.syms, .sl (Rx.avs x.kids)])), (41, .v .pl (.sl [(.agg [int x.kind, ints x.syms, .sl (Rx.avs x.kids)])])), (0, .v .pl (rxs l)), (3, .v .pl (.pc [int (x).kind, ints (x).syms, .sl (Rx.avs (x).kids)] 0)), (5, .v .pl (int k)), (6, .v .pl (.sc (.slice none 0 0)))] mixed (by kernel_rfl) (by kernel_rfl) (by kernel_rfl) rfl (by kernel_rfl) (fun t d h => h) rfl ?_ ?_ ?_ ?_ ?_
  · intro i hi
    rcases (by omega : i = 0 ∨ i = 1 ∨ i = 2 ∨ i = 3 ∨ i = 4 ∨ i = 5 ∨ i = 6) with rfl | rfl | rfl | rfl | rfl | rfl | rfl <;> exact ⟨_, _, rfl, rfl⟩
  · intro i o t d hi hia ho hd hG hn
    rcases (by omega : i = 0 ∨ i = 1 ∨ i = 2 ∨ i = 3 ∨ i = 5 ∨ i = 6) with rfl | rfl | rfl | rfl | rfl | rfl
    · injection (show some _ = some o from ho) with ho; subst ho; injection (show some _ = some t from hd) with hd; subst hd; injection (show some _ = some d from hG) with hG; subst hG
      exact pure_move rfl rfl
    · injection (show some _ = some o from ho) with ho; subst ho; injection (show some _ = some t from hd) with hd; subst hd; injection (show some _ = some d from hG) with hG; subst hG
      exact pure_move rfl rfl
    · injection (show some _ = some o from ho) with ho; subst ho; injection (show some _ = some t from hd) with hd; subst hd; injection (show some _ = some d from hG) with hG; subst hG
      exact pure_move rfl rfl
    · injection (show some _ = some o from ho) with ho; subst ho; injection (show some _ = some t from hd) with hd; subst hd; injection (show some _ = some d from hG) with hG; subst hG
      exact pure_slice_hm (f := rx) (l := l) (j := (k : Int)) rfl Tryz.underlying23 sz25 rfl rfl (by omega) (fun _ => rfl)
    · injection (show some _ = some o from ho) with ho; subst ho; injection (show some _ = some t from hd) with hd; subst hd; injection (show some _ = some d from hG) with hG; subst hG
      exact pure_load_agg (cs := [int x.kind, ints x.syms, .sl (Rx.avs x.kids)]) (off := 0) rfl ag25 sz25 rfl (Nat.le_of_ble_eq_true rfl)
    · injection (show some _ = some o from ho) with ho; subst ho; injection (show some _ = some t from hd) with hd; subst hd; injection (show some _ = some d from hG) with hG; subst hG
      exact pure_lit rfl Tryz.underlying23 el25 rfl rfl rfl rfl hM0
  · intro i o t d hi hia ho hd hG hn
    rcases (by omega : i = 0 ∨ i = 1 ∨ i = 2 ∨ i = 3 ∨ i = 5 ∨ i = 6) with rfl | rfl | rfl | rfl | rfl | rfl
    · exact absurd hn (by decide)
    · exact absurd hn (by decide)
    · exact absurd hn (by decide)
    · exact absurd hn (by decide)
    · injection (show some _ = some o from ho) with ho; subst ho; injection (show some _ = some t from hd) with hd; subst hd; injection (show some _ = some d from hG) with hG; subst hG
      exact pure_load_agg (cs := [int x.kind, ints x.syms, .sl (Rx.avs x.kids)]) (off := 0) rfl ag25 sz25 rfl (Nat.le_of_ble_eq_true rfl)
    · injection (show some _ = some o from ho) with ho; subst ho; injection (show some _ = some t from hd) with hd; subst hd; injection (show some _ = some d from hG) with hG; subst hG
      exact pure_lit rfl Tryz.underlying23 el25 rfl rfl rfl rfl hM0
  · intro o X ho hXn hXG hXr
    have hX35 : 35 ∈ looks _ o → X.lookup 35 = some (.v .pl (.sc (.slice none 0 0))) := fun h => (hXr 35 h).trans rfl
    have hX38 : 38 ∈ looks _ o → X.lookup 38 = some (.v .pl (rxs (l.take k))) := fun h => (hXr 38 h).trans rfl
    injection (show some _ = some o from ho) with ho'
    obtain ⟨s', g1, g2⟩ := step_apn (o := o) (f := rx) (l := l.take k) (n := 48) (X := X) (t := 39) (u := 35) (v := 38) (by rw [← ho']; rfl) (by rw [← ho']; rfl) rfl hXn Tryz.underlying23 el25 (hX35 (by rw [← ho']; decide)) (hX38 (by rw [← ho']; decide)) (fun _ => rfl) (by rw [List.length_map, List.length_take]; omega) (by rw [List.length_map, List.length_take]; omega) (fun t' d h hne => all_stays (by rfl) (hXG t' d h) hne) rfl hM0
    exact ⟨39, _, s', by rw [← ho']; rfl, rfl, g1, g2⟩
  refine endL_of (n := 2) (by kernel_rfl) ?_
  refine ex_one (i := 7) (by kernel_rfl) rfl rfl (step_append rfl rfl rfl rfl Tryz.underlying23 el25 rfl rfl hM0 (src_pl rfl (one_len (by rfl))) (by simp only [List.length_append, List.length_map, List.length_take, List.length_drop, List.length_nil, List.length_cons]; omega) (by simp only [List.length_append, List.length_map, List.length_take, List.length_drop, List.length_nil, List.length_cons]; omega)) ?_
  refine ex_one (i := 8) (by kernel_rfl) rfl rfl (st_pure rfl rfl (pure_assign rfl rfl)) ?_
  refine ex_end (by kernel_rfl) ?_
  refine xD tb hM0 6 [43,44,45] [39] rfl ?_
  refine oP rfl (pure_slice_lm rfl Tryz.underlying23 sz25 rfl rfl (by first | (simp only [ll]; omega) | omega) (fun _ => rfl)) ?_
  refine oS rfl (step_append rfl rfl rfl rfl Tryz.underlying23 el25 rfl rfl hM0 (src_plm (f := rx) (l := l.drop k) rfl (fun _ => rfl)) (by simp only [List.length_append, List.length_map, List.length_take, List.length_drop, List.length_nil, List.length_cons]; omega) (by simp only [List.length_append, List.length_map, List.length_take, List.length_drop, List.length_nil, List.length_cons]; omega)) rfl ?_
  refine ol_frz 48 [(47, _)] [] hM0 rfl ⟨.inr ⟨_, _, rfl, rfl, rfl⟩, trivial⟩ trivial ?_
  refine xO tb hM0 4 [] [] rfl ?_
  refine end_ret rfl ?_; rotate_left
  have h3' := h3; try simp only [dq] at h3'
  refine dl_skip_g rfl rfl h3 rfl rfl ?_
  refine dl_skip_g rfl rfl h3 rfl rfl ?_
  refine dpk 48 [(0,_),(3,_),(5,_),(26,_),(27,_),(28,_)] [] rfl rfl rfl ?_
  refine dl_skip_g rfl rfl h3 rfl rfl ?_
  refine dl_skip_g rfl rfl h3 rfl rfl ?_
  refine dl_skip_g rfl rfl h3 rfl rfl ?_
  refine dl_skip_g rfl rfl h3 rfl rfl ?_
  refine dl_pure rfl rfl rfl (pure_pick_f rfl rfl h3 rfl) ?_
  refine dl_nil ?_
  refine xD tb hM0 10 [0,3,5,6] [] rfl ?_
  refine code_draw1 (n := 48) (o2 := [(39, .arr 25 ((l.take k).map rx))]) 4 7 [(35, .v .pl (.sc (.slice none 0 0))), (36, .v .pl (rxs l)), (37, .v .pl (int k)), (38, .v .pl (rxs (l.take k))), (39, .own 39), (40, .v .pl (.agg [int x.kind, ints x.syms, .sl (Rx.avs x.kids)])), (41, .v .pl (.sl [(.agg [int x.kind, ints x.syms, .sl (Rx.avs x.kids)])])), (0, .v .pl (rxs l)), (3, .v .pl (.pc [int (x).kind, ints (x).syms, .sl (Rx.avs (x).kids)] 0)), (5, .v .pl (int k)), (6, .v .pl (.sc (.slice none 0 0)))] mixed (by kernel_rfl) (by kernel_rfl) (by kernel_rfl) rfl (by kernel_rfl) (fun t d h => h) rfl ?_ ?_ ?_ ?_ ?_
  · intro i hi
    rcases (by omega : i = 0 ∨ i = 1 ∨ i = 2 ∨ i = 3 ∨ i = 4 ∨ i = 5 ∨ i = 6) with rfl | rfl | rfl | rfl | rfl | rfl | rfl <;> exact ⟨_, _, rfl, rfl⟩
  · intro i o t d hi hia ho hd hG hn
    rcases (by omega : i = 0 ∨ i = 1 ∨ i = 2 ∨ i = 3 ∨ i = 5 ∨ i = 6) with rfl | rfl | rfl | rfl | rfl | rfl
    · injection (show some _ = some o from ho) with ho; subst ho; injection (show some _ = some t from hd) with hd; subst hd; injection (show some _ = some d from hG) with hG; subst hG
      exact pure_move rfl rfl
    · injection (show some _ = some o from ho) with ho; subst ho; injection (show some _ = some t from hd) with hd; subst hd; injection (show some _ = some d from hG) with hG; subst hG
      exact pure_move rfl rfl
    · injection (show some _ = some o from ho) with ho; subst ho; injection (show some _ = some t from hd) with hd; subst hd; injection (show some _ = some d from hG) with hG; subst hG
      exact pure_move rfl rfl
    · injection (show some _ = some o from ho) with ho; subst ho; injection (show some _ = some t from hd) with hd; subst hd; injection (show some _ = some d from hG) with hG; subst hG
      exact pure_slice_hm (f := rx) (l := l) (j := (k : Int)) rfl Tryz.underlying23 sz25 rfl rfl (by omega) (fun _ => rfl)
    · injection (show some _ = some o from ho) with ho; subst ho; injection (show some _ = some t from hd) with hd; subst hd; injection (show some _ = some d from hG) with hG; subst hG
      exact pure_load_agg (cs := [int x.kind, ints x.syms, .sl (Rx.avs x.kids)]) (off := 0) rfl ag25 sz25 rfl (Nat.le_of_ble_eq_true rfl)
    · injection (show some _ = some o from ho) with ho; subst ho; injection (show some _ = some t from hd) with hd; subst hd; injection (show some _ = some d from hG) with hG; subst hG
      exact pure_lit rfl Tryz.underlying23 el25 rfl rfl rfl rfl hM0
  · intro i o t d hi hia ho hd hG hn
    rcases (by omega : i = 0 ∨ i = 1 ∨ i = 2 ∨ i = 3 ∨ i = 5 ∨ i = 6) with rfl | rfl | rfl | rfl | rfl | rfl
    · exact absurd hn (by decide)
    · exact absurd hn (by decide)
    · exact absurd hn (by decide)
    · exact absurd hn (by decide)
    · injection (show some _ = some o from ho) with ho; subst ho; injection (show some _ = some t from hd) with hd; subst hd; injection (show some _ = some d from hG) with hG; subst hG
      exact pure_load_agg (cs := [int x.kind, ints x.syms, .sl (Rx.avs x.kids)]) (off := 0) rfl ag25 sz25 rfl (Nat.le_of_ble_eq_true rfl)
    · injection (show some _ = some o from ho) with ho; subst ho; injection (show some _ = some t from hd) with hd; subst hd; injection (show some _ = some d from hG) with hG; subst hG
      exact pure_lit rfl Tryz.underlying23 el25 rfl rfl rfl rfl hM0
  · intro o X ho hXn hXG hXr
    have hX35 : 35 ∈ looks _ o → X.lookup 35 = some (.v .pl (.sc (.slice none 0 0))) := fun h => (hXr 35 h).trans rfl
    have hX38 : 38 ∈ looks _ o → X.lookup 38 = some (.v .pl (rxs (l.take k))) := fun h => (hXr 38 h).trans rfl
    injection (show some _ = some o from ho) with ho'
    obtain ⟨s', g1, g2⟩ := step_apn (o := o) (f := rx) (l := l.take k) (n := 48) (X := X) (t := 39) (u := 35) (v := 38) (by rw [← ho']; rfl) (by rw [← ho']; rfl) rfl hXn Tryz.underlying23 el25 (hX35 (by rw [← ho']; decide)) (hX38 (by rw [← ho']; decide)) (fun _ => rfl) (by rw [List.length_map, List.length_take]; omega) (by rw [List.length_map, List.length_take]; omega) (fun t' d h hne => all_stays (by rfl) (hXG t' d h) hne) rfl hM0
    exact ⟨39, _, s', by rw [← ho']; rfl, rfl, g1, g2⟩
  refine endL_of (n := 2) (by kernel_rfl) ?_
  refine ex_one (i := 7) (by kernel_rfl) rfl rfl (step_append rfl rfl rfl rfl Tryz.underlying23 el25 rfl rfl hM0 (src_pl rfl (one_len (by rfl))) (by simp only [List.length_append, List.length_map, List.length_take, List.length_drop, List.length_nil, List.length_cons]; omega) (by simp only [List.length_append, List.length_map, List.length_take, List.length_drop, List.length_nil, List.length_cons]; omega)) ?_
  refine ex_one (i := 8) (by kernel_rfl) rfl rfl (st_pure rfl rfl (pure_assign rfl rfl)) ?_
  refine ex_end (by kernel_rfl) ?_
  refine xD tb hM0 6 [43,44,45] [39] rfl ?_
  refine oP rfl (pure_slice_lm rfl Tryz.underlying23 sz25 rfl rfl (by first | (simp only [ll]; omega) | omega) (fun _ => rfl)) ?_
  refine oS rfl (step_append rfl rfl rfl rfl Tryz.underlying23 el25 rfl rfl hM0 (src_plm (f := rx) (l := l.drop k) rfl (fun _ => rfl)) (by simp only [List.length_append, List.length_map, List.length_take, List.length_drop, List.length_nil, List.length_cons]; omega) (by simp only [List.length_append, List.length_map, List.length_take, List.length_drop, List.length_nil, List.length_cons]; omega)) rfl ?_
  refine ol_frz 48 [(47, _)] [] hM0 rfl ⟨.inr ⟨_, _, rfl, rfl, rfl⟩, trivial⟩ trivial ?_
  refine xO tb hM0 4 [] [] rfl ?_
  refine end_ret rfl ?_; rotate_left
  have h1' := h1; try simp only [dq] at h1'
  refine dl_skip_g rfl rfl h1 rfl rfl ?_
  refine dl_skip_g rfl rfl h1 rfl rfl ?_
  refine dpk 48 [(0,_),(3,_),(5,_),(11,_),(12,_),(13,_)] [] rfl rfl rfl ?_
  refine dl_skip_g rfl rfl h1 rfl rfl ?_
  refine dl_skip_g rfl rfl h1 rfl rfl ?_
  refine dl_skip_g rfl rfl h1 rfl rfl ?_
  refine dl_skip_g rfl rfl h1 rfl rfl ?_
  refine dl_skip_g rfl rfl h1 rfl rfl ?_
  refine dl_pure rfl rfl rfl (pure_pick_f rfl rfl h1 rfl) ?_
  refine dl_nil ?_
  refine xD tb hM0 9 [0,3,5] [] rfl ?_
  refine code_draw mixed (by kernel_rfl) _ rfl ?_
  refine dl_pure rfl rfl rfl (pure_move rfl rfl) ?_
  refine dl_pure rfl rfl rfl (pure_move rfl rfl) ?_
  refine dl_pure rfl rfl rfl (pure_lenm rfl Tryz.underlying23 rfl) ?_
  refine dl_pure rfl rfl rfl (pure_lss rfl rfl rfl) ?_
  refine dl_pure rfl rfl rfl (pure_move rfl rfl) ?_
  refine dl_guard rfl (fun h5 => ?_) (fun h5 => ?_)
  have h5' := h5; try simp only [dq] at h5'
  refine dl_pure_g rfl rfl h5 rfl rfl (pure_move rfl rfl) ?_
  refine dl_pure_g rfl rfl h5 rfl rfl (pure_move rfl rfl) ?_
  refine dpk 48 [(0,_),(3,_),(5,_),(26,_),(27,_),(28,_)] [] rfl rfl rfl ?_
  refine dl_pure_g rfl rfl h5 rfl rfl (pure_ix rfl Tryz.underlying23 sz25 rfl rfl (by omega) (fun _ => rfl)) ?_
  refine dl_pure_g rfl rfl h5 rfl rfl (pure_load_agg rfl ag25 sz25 rfl (Nat.le_of_ble_eq_true rfl)) ?_
  refine dl_pure_g rfl rfl h5 rfl rfl (pure_load_agg rfl ag25 sz25 rfl (Nat.le_of_ble_eq_true rfl)) ?_
  refine dl_pure_g rfl rfl h5 rfl rfl (pure_call rfl rfl rfl (same_call (a := l.getD k default) (b := x) (by have := hk k (by omega); omega) (by omega)) hM0) ?_
  refine dl_pure rfl rfl rfl (pure_pick_t rfl rfl h5 rfl) ?_
  refine dl_nil ?_
  refine xD tb hM0 1 [0,3,5,33] [] rfl ?_
  refine spC 33 rfl ?_ ?_ <;> intro h6 <;> try simp only [dq] at h6
  refine xA tb hM0 9 [] [] rfl ?_
  refine end_ret rfl ?_; rotate_left
  refine xA tb hM0 9 [0,3,5,6] [] rfl ?_
  refine code_draw1 (n := 48) (o2 := [(39, .arr 25 ((l.take k).map rx))]) 4 7 [(35, .v .pl (.sc (.slice none 0 0))), (36, .v .pl (rxs l)), (37, .v .pl (int k)), (38, .v .pl (rxs (l.take k))), (39, .own 39), (40, .v .pl (.agg [int x.kind, ints x.syms, .sl (Rx.avs x.kids)])), (41, .v .pl (.sl [(.agg [int x.kind, ints x.syms, .sl (Rx.avs x.kids)])])), (0, .v .pl (rxs l)), (3, .v .pl (.pc [int (x).kind, ints (x).syms, .sl (Rx.avs (x).kids)] 0)), (5, .v .pl (int k)), (6, .v .pl (.sc (.slice none 0 0)))] mixed (by kernel_rfl) (by kernel_rfl) (by kernel_rfl) rfl (by kernel_rfl) (fun t d h => h) rfl ?_ ?_ ?_ ?_ ?_
  · intro i hi
    rcases (by omega : i = 0 ∨ i = 1 ∨ i = 2 ∨ i = 3 ∨ i = 4 ∨ i = 5 ∨ i = 6) with rfl | rfl | rfl | rfl | rfl | rfl | rfl <;> exact ⟨_, _, rfl, rfl⟩
  · intro i o t d hi hia ho hd hG hn
    rcases (by omega : i = 0 ∨ i = 1 ∨ i = 2 ∨ i = 3 ∨ i = 5 ∨ i = 6) with rfl | rfl | rfl | rfl | rfl | rfl
    · injection (show some _ = some o from ho) with ho; subst ho; injection (show some _ = some t from hd) with hd; subst hd; injection (show some _ = some d from hG) with hG; subst hG
      exact pure_move rfl rfl
    · injection (show some _ = some o from ho) with ho; subst ho; injection (show some _ = some t from hd) with hd; subst hd; injection (show some _ = some d from hG) with hG; subst hG
      exact pure_move rfl rfl
    · injection (show some _ = some o from ho) with ho; subst ho; injection (show some _ = some t from hd) with hd; subst hd; injection (show some _ = some d from hG) with hG; subst hG
      exact pure_move rfl rfl
    · injection (show some _ = some o from ho) with ho; subst ho; injection (show some _ = some t from hd) with hd; subst hd; injection (show some _ = some d from hG) with hG; subst hG
      exact pure_slice_hm (f := rx) (l := l) (j := (k : Int)) rfl Tryz.underlying23 sz25 rfl rfl (by omega) (fun _ => rfl)
    · injection (show some _ = some o from ho) with ho; subst ho; injection (show some _ = some t from hd) with hd; subst hd; injection (show some _ = some d from hG) with hG; subst hG
      exact pure_load_agg (cs := [int x.kind, ints x.syms, .sl (Rx.avs x.kids)]) (off := 0) rfl ag25 sz25 rfl (Nat.le_of_ble_eq_true rfl)
    · injection (show some _ = some o from ho) with ho; subst ho; injection (show some _ = some t from hd) with hd; subst hd; injection (show some _ = some d from hG) with hG; subst hG
      exact pure_lit rfl Tryz.underlying23 el25 rfl rfl rfl rfl hM0
  · intro i o t d hi hia ho hd hG hn
    rcases (by omega : i = 0 ∨ i = 1 ∨ i = 2 ∨ i = 3 ∨ i = 5 ∨ i = 6) with rfl | rfl | rfl | rfl | rfl | rfl
    · exact absurd hn (by decide)
    · exact absurd hn (by decide)
    · exact absurd hn (by decide)
    · exact absurd hn (by decide)
    · injection (show some _ = some o from ho) with ho; subst ho; injection (show some _ = some t from hd) with hd; subst hd; injection (show some _ = some d from hG) with hG; subst hG
      exact pure_load_agg (cs := [int x.kind, ints x.syms, .sl (Rx.avs x.kids)]) (off := 0) rfl ag25 sz25 rfl (Nat.le_of_ble_eq_true rfl)
    · injection (show some _ = some o from ho) with ho; subst ho; injection (show some _ = some t from hd) with hd; subst hd; injection (show some _ = some d from hG) with hG; subst hG
      exact pure_lit rfl Tryz.underlying23 el25 rfl rfl rfl rfl hM0
  · intro o X ho hXn hXG hXr
    have hX35 : 35 ∈ looks _ o → X.lookup 35 = some (.v .pl (.sc (.slice none 0 0))) := fun h => (hXr 35 h).trans rfl
    have hX38 : 38 ∈ looks _ o → X.lookup 38 = some (.v .pl (rxs (l.take k))) := fun h => (hXr 38 h).trans rfl
    injection (show some _ = some o from ho) with ho'
    obtain ⟨s', g1, g2⟩ := step_apn (o := o) (f := rx) (l := l.take k) (n := 48) (X := X) (t := 39) (u := 35) (v := 38) (by rw [← ho']; rfl) (by rw [← ho']; rfl) rfl hXn Tryz.underlying23 el25 (hX35 (by rw [← ho']; decide)) (hX38 (by rw [← ho']; decide)) (fun _ => rfl) (by rw [List.length_map, List.length_take]; omega) (by rw [List.length_map, List.length_take]; omega) (fun t' d h hne => all_stays (by rfl) (hXG t' d h) hne) rfl hM0
    exact ⟨39, _, s', by rw [← ho']; rfl, rfl, g1, g2⟩
  refine endL_of (n := 2) (by kernel_rfl) ?_
  refine ex_one (i := 7) (by kernel_rfl) rfl rfl (step_append rfl rfl rfl rfl Tryz.underlying23 el25 rfl rfl hM0 (src_pl rfl (one_len (by rfl))) (by simp only [List.length_append, List.length_map, List.length_take, List.length_drop, List.length_nil, List.length_cons]; omega) (by simp only [List.length_append, List.length_map, List.length_take, List.length_drop, List.length_nil, List.length_cons]; omega)) ?_
  refine ex_one (i := 8) (by kernel_rfl) rfl rfl (st_pure rfl rfl (pure_assign rfl rfl)) ?_
  refine ex_end (by kernel_rfl) ?_
  refine xD tb hM0 6 [43,44,45] [39] rfl ?_
  refine oP rfl (pure_slice_lm rfl Tryz.underlying23 sz25 rfl rfl (by first | (simp only [ll]; omega) | omega) (fun _ => rfl)) ?_
  refine oS rfl (step_append rfl rfl rfl rfl Tryz.underlying23 el25 rfl rfl hM0 (src_plm (f := rx) (l := l.drop k) rfl (fun _ => rfl)) (by simp only [List.length_append, List.length_map, List.length_take, List.length_drop, List.length_nil, List.length_cons]; omega) (by simp only [List.length_append, List.length_map, List.length_take, List.length_drop, List.length_nil, List.length_cons]; omega)) rfl ?_
  refine ol_frz 48 [(47, _)] [] hM0 rfl ⟨.inr ⟨_, _, rfl, rfl, rfl⟩, trivial⟩ trivial ?_
  refine xO tb hM0 4 [] [] rfl ?_
  refine end_ret rfl ?_; rotate_left
  have h5' := h5; try simp only [dq] at h5'
  refine dl_skip_g rfl rfl h5 rfl rfl ?_
  refine dl_skip_g rfl rfl h5 rfl rfl ?_
  refine dpk 48 [(0,_),(3,_),(5,_),(26,_),(27,_),(28,_)] [] rfl rfl rfl ?_
  refine dl_skip_g rfl rfl h5 rfl rfl ?_
  refine dl_skip_g rfl rfl h5 rfl rfl ?_
  refine dl_skip_g rfl rfl h5 rfl rfl ?_
  refine dl_skip_g rfl rfl h5 rfl rfl ?_
  refine dl_pure rfl rfl rfl (pure_pick_f rfl rfl h5 rfl) ?_
  refine dl_nil ?_
  refine xD tb hM0 10 [0,3,5,6] [] rfl ?_
  refine code_draw1 (n := 48) (o2 := [(39, .arr 25 ((l.take k).map rx))]) 4 7 [(35, .v .pl (.sc (.slice none 0 0))), (36, .v .pl (rxs l)), (37, .v .pl (int k)), (38, .v .pl (rxs (l.take k))), (39, .own 39), (40, .v .pl (.agg [int x.kind, ints x.syms, .sl (Rx.avs x.kids)])), (41, .v .pl (.sl [(.agg [int x.kind, ints x.syms, .sl (Rx.avs x.kids)])])), (0, .v .pl (rxs l)), (3, .v .pl (.pc [int (x).kind, ints (x).syms, .sl (Rx.avs (x).kids)] 0)), (5, .v .pl (int k)), (6, .v .pl (.sc (.slice none 0 0)))] mixed (by kernel_rfl) (by kernel_rfl) (by kernel_rfl) rfl (by kernel_rfl) (fun t d h => h) rfl ?_ ?_ ?_ ?_ ?_
  · intro i hi
    rcases (by omega : i = 0 ∨ i = 1 ∨ i = 2 ∨ i = 3 ∨ i = 4 ∨ i = 5 ∨ i = 6) with rfl | rfl | rfl | rfl | rfl | rfl | rfl <;> exact ⟨_, _, rfl, rfl⟩
  · intro i o t d hi hia ho hd hG hn
    rcases (by omega : i = 0 ∨ i = 1 ∨ i = 2 ∨ i = 3 ∨ i = 5 ∨ i = 6) with rfl | rfl | rfl | rfl | rfl | rfl
    · injection (show some _ = some o from ho) with ho; subst ho; injection (show some _ = some t from hd) with hd; subst hd; injection (show some _ = some d from hG) with hG; subst hG
      exact pure_move rfl rfl
    · injection (show some _ = some o from ho) with ho; subst ho; injection (show some _ = some t from hd) with hd; subst hd; injection (show some _ = some d from hG) with hG; subst hG
      exact pure_move rfl rfl
    · injection (show some _ = some o from ho) with ho; subst ho; injection (show some _ = some t from hd) with hd; subst hd; injection (show some _ = some d from hG) with hG; subst hG
      exact pure_move rfl rfl
    · injection (show some _ = some o from ho) with ho; subst ho; injection (show some _ = some t from hd) with hd; subst hd; injection (show some _ = some d from hG) with hG; subst hG
      exact pure_slice_hm (f := rx) (l := l) (j := (k : Int)) rfl Tryz.underlying23 sz25 rfl rfl (by omega) (fun _ => rfl)
    · injection (show some _ = some o from ho) with ho; subst ho; injection (show some _ = some t from hd) with hd; subst hd; injection (show some _ = some d from hG) with hG; subst hG
      exact pure_load_agg (cs := [int x.kind, ints x.syms, .sl (Rx.avs x.kids)]) (off := 0) rfl ag25 sz25 rfl (Nat.le_of_ble_eq_true rfl)
    · injection (show some _ = some o from ho) with ho; subst ho; injection (show some _ = some t from hd) with hd; subst hd; injection (show some _ = some d from hG) with hG; subst hG
      exact pure_lit rfl Tryz.underlying23 el25 rfl rfl rfl rfl hM0
  · intro i o t d hi hia ho hd hG hn
    rcases (by omega : i = 0 ∨ i = 1 ∨ i = 2 ∨ i = 3 ∨ i = 5 ∨ i = 6) with rfl | rfl | rfl | rfl | rfl | rfl
    · exact absurd hn (by decide)
    · exact absurd hn (by decide)
    · exact absurd hn (by decide)
    · exact absurd hn (by decide)
    · injection (show some _ = some o from ho) with ho; subst ho; injection (show some _ = some t from hd) with hd; subst hd; injection (show some _ = some d from hG) with hG; subst hG
      exact pure_load_agg (cs := [int x.kind, ints x.syms, .sl (Rx.avs x.kids)]) (off := 0) rfl ag25 sz25 rfl (Nat.le_of_ble_eq_true rfl)
    · injection (show some _ = some o from ho) with ho; subst ho; injection (show some _ = some t from hd) with hd; subst hd; injection (show some _ = some d from hG) with hG; subst hG
      exact pure_lit rfl Tryz.underlying23 el25 rfl rfl rfl rfl hM0
  · intro o X ho hXn hXG hXr
    have hX35 : 35 ∈ looks _ o → X.lookup 35 = some (.v .pl (.sc (.slice none 0 0))) := fun h => (hXr 35 h).trans rfl
    have hX38 : 38 ∈ looks _ o → X.lookup 38 = some (.v .pl (rxs (l.take k))) := fun h => (hXr 38 h).trans rfl
    injection (show some _ = some o from ho) with ho'
    obtain ⟨s', g1, g2⟩ := step_apn (o := o) (f := rx) (l := l.take k) (n := 48) (X := X) (t := 39) (u := 35) (v := 38) (by rw [← ho']; rfl) (by rw [← ho']; rfl) rfl hXn Tryz.underlying23 el25 (hX35 (by rw [← ho']; decide)) (hX38 (by rw [← ho']; decide)) (fun _ => rfl) (by rw [List.length_map, List.length_take]; omega) (by rw [List.length_map, List.length_take]; omega) (fun t' d h hne => all_stays (by rfl) (hXG t' d h) hne) rfl hM0
    exact ⟨39, _, s', by rw [← ho']; rfl, rfl, g1, g2⟩
  refine endL_of (n := 2) (by kernel_rfl) ?_
  refine ex_one (i := 7) (by kernel_rfl) rfl rfl (step_append rfl rfl rfl rfl Tryz.underlying23 el25 rfl rfl hM0 (src_pl rfl (one_len (by rfl))) (by simp only [List.length_append, List.length_map, List.length_take, List.length_drop, List.length_nil, List.length_cons]; omega) (by simp only [List.length_append, List.length_map, List.length_take, List.length_drop, List.length_nil, List.length_cons]; omega)) ?_
  refine ex_one (i := 8) (by kernel_rfl) rfl rfl (st_pure rfl rfl (pure_assign rfl rfl)) ?_
  refine ex_end (by kernel_rfl) ?_
  refine xD tb hM0 6 [43,44,45] [39] rfl ?_
  refine oP rfl (pure_slice_lm rfl Tryz.underlying23 sz25 rfl rfl (by first | (simp only [ll]; omega) | omega) (fun _ => rfl)) ?_
  refine oS rfl (step_append rfl rfl rfl rfl Tryz.underlying23 el25 rfl rfl hM0 (src_plm (f := rx) (l := l.drop k) rfl (fun _ => rfl)) (by simp only [List.length_append, List.length_map, List.length_take, List.length_drop, List.length_nil, List.length_cons]; omega) (by simp only [List.length_append, List.length_map, List.length_take, List.length_drop, List.length_nil, List.length_cons]; omega)) rfl ?_
  refine ol_frz 48 [(47, _)] [] hM0 rfl ⟨.inr ⟨_, _, rfl, rfl, rfl⟩, trivial⟩ trivial ?_
  refine xO tb hM0 4 [] [] rfl ?_
  refine end_ret rfl ?_; rotate_left
  all_goals
    first | (exfalso; omega) | (rw [rput_same (i := k) (by omega) hL1_1 (by omega)]; first | done | rfl) | (rw [rput_new (i := k) (by omega) hL1_1 (fun _ => by omega) (fun _ => by omega)]; show _ = RV.p (.sl ((l.take k ++ [x] ++ l.drop k).map rx)); rw [List.map_append, List.map_append]; rfl)
end Go.Proofs.YtgdehkimfmfofaaGreat

