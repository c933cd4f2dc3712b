/- For all lists of numbers, the law RegexPatterns answers true: Parse reads the pattern that Print returns as the normal form, also behind an encoding as bytes; no condition. -/
import Derived.Test.YtgdehkimfmfofaaGreatJ35
import Derived.Test.YtgdehkimfmfofaaGreatJ28
import Derived.Test.YtgdehkimfmfofaaGreatJ27
import Derived.Test.YtgdehkimfmfofaaGreatJ38
import Derived.Test.YtgdehkimfmfofaaGreatRows
import Derived.Test.YtgdehkimfmfofaaGreatJ10
set_option linter.unusedVariables false
set_option linter.unusedSimpArgs false
namespace Go.Proofs.YtgdehkimfmfofaaGreat
open Go.Am Go.Wc
set_option linter.unusedVariables false
set_option linter.unusedSimpArgs false
theorem fn65 : Fn1 Tryz.prog 65 Tryz.f65.ntmps 2 (Tryz.f65.body.getD .skip) := ⟨Tryz.f65, Tryz.func65, rfl, rfl, rfl, by kernel_rfl⟩
set_option maxRecDepth 100000 in
theorem pool_call {n : Int} (hn : 0 ≤ n ∧ n < 16) : CallF Tryz.prog 65 [int n] (.p (sbytes (poolL.getD n.toNat default))) := by
  refine callF_of_code fn65 (Nat.le_of_ble_eq_true rfl) fun w0 M0 hM0 => ?_
  refine xC tb hM0 7 [0] [] rfl ?_
  refine oP rfl (pure_lit rfl Tryz.underlying111 el9 rfl rfl rfl rfl hM0) ?_
  refine xA tb hM0 1 [3,4] [] rfl ?_
  refine oP rfl (pure_indexm (f := sbytes) (l := poolL) rfl Tryz.underlying111 sz9 rfl rfl (by simp only [List.length_cons, List.length_nil]; omega) (fun _ => rfl)) ?_
  refine xA tb hM0 5 [] [] rfl ?_
  refine end_ret rfl ?_
  rfl
theorem fn38 : Fn1 Tryz.prog 38 Tryz.f38.ntmps 0 (Tryz.f38.body.getD .skip) := ⟨Tryz.f38, Tryz.func38, rfl, rfl, rfl, by kernel_rfl⟩
set_option maxRecDepth 100000 in
theorem small_call : CallF Tryz.prog 38 [] (.p (letters smallP)) := by
  refine callF_of_code fn38 (Nat.le_of_ble_eq_true rfl) fun w0 M0 hM0 => ?_
  refine xC tb hM0 17 [1,2,3,4,5,6,7,8,9,10] [] rfl ?_
  refine oP rfl (pure_lit rfl Tryz.underlying39 el83 rfl rfl rfl rfl hM0) ?_
  refine xA tb hM0 4 [] [] rfl ?_
  refine end_ret rfl ?_
  rfl
theorem fn34 : Fn1 Tryz.prog 34 Tryz.f34.ntmps 2 (Tryz.f34.body.getD .skip) := ⟨Tryz.f34, Tryz.func34, rfl, rfl, rfl, by kernel_rfl⟩
set_option maxRecDepth 100000 in
set_option maxHeartbeats 2000000 in
theorem letters_call {l : List Int} (hl : l.length ≤ 9223372036854775807) (h64 : I64s l) : CallF Tryz.prog 34 [ints l] (.fresh 83 ((lettersP l).map letter)) := by
  have a0 := atL_lt (l := l) (i := 0) (most := 6) (by decide)
  have a1 := atL_lt (l := l) (i := 1) (most := 16) (by decide)
  refine callF_of_code fn34 (Nat.le_of_ble_eq_true rfl) fun w0 M0 hM0 => ?_
  refine xC tb hM0 2 [0] [] rfl ?_
  refine oS rfl (step_nil rfl rfl rfl rfl rfl 83 hM0) rfl ?_
  refine xA tb hM0 5 [0,8] [] rfl ?_
  refine oP rfl (pure_call rfl rfl rfl (at_call (by assumption) (by omega)) hM0) ?_
  refine oP rfl (pure_addi rfl rfl rfl (by omega)) ?_
  refine xA tb hM0 6 [0,3,11] [] rfl ?_
  refine oP rfl (pure_call rfl rfl rfl (at_call (by assumption) (by omega)) hM0) ?_
  refine xA tb hM0 5 [0,3,4] [] rfl ?_
  refine oS rfl (step_nil rfl rfl rfl rfl rfl 83 hM0) rfl ?_
  refine xA tb hM0 9 [0,3,4,5,6] [5] rfl ?_
  refine lp (fun zm zs => ∃ i : Nat, zm = (3 + atL l 0 6).toNat - i ∧ (i ≤ (3 + atL l 0 6).toNat) ∧ zs = ⟨64, [(0, .v .mx (ints l)), (3, .v .pl (int (3 + atL l 0 6))), (4, .v .pl (int (atL l 1 16))), (5, .own 5), (6, .v .pl (int i))], [(5, .arr 83 ((lettersN l (atL l 1 16) i).map letter))]⟩) ?_ ?_
  exact ⟨_, 0, rfl, Nat.zero_le _, rfl⟩
  rintro zm zs ⟨i, rfl, hL1_0, rfl⟩
  have b1 := atL_lt (l := l) (i := 2 + i) (most := 9) (by decide)
  have b2 := atL_lt (l := l) (i := 10 + i) (most := 3) (by decide)
  have b3 := atL_lt (l := l) (i := 30 + i) (most := 4) (by decide)
  have b4 := atL_lt (l := l) (i := 40 + i) (most := 2) (by decide)
  have b5 := fun h : 0 < (i : Int) => atL_lt (l := l) (i := 20 + i) (most := i) h
  have b6 := lettersN_len l (atL l 1 16) i
  refine xA tb hM0 8 [0,3,4,5,6,15] [5] rfl ?_
  refine spC 15 rfl ?_ ?_ <;> intro h1 <;> try simp only [dq] at h1
  refine xA tb hM0 9 [0,3,4,5,6,18,19] [5] rfl ?_
  refine oP rfl (pure_addi rfl rfl rfl (by omega)) ?_
  refine oP rfl (pure_remn rfl rfl rfl (by omega)) ?_
  refine xA tb hM0 0 [0,3,4,5,6,21] [5] rfl ?_
  refine oP rfl (pure_call rfl rfl rfl (pool_call (by omega)) hM0) ?_
  refine xA tb hM0 3 [0,3,4,5,6,22,23,24,25] [5] rfl ?_
  refine oP rfl (pure_addi rfl rfl rfl (by omega)) ?_
  refine oP rfl (pure_call rfl rfl rfl (at_call (by assumption) (by omega)) hM0) ?_
  refine xA tb hM0 0 [0,3,4,5,6,22,23,27] [5] rfl ?_
  refine oP rfl (pure_addi rfl rfl rfl (by omega)) ?_
  refine xA tb hM0 11 [0,3,4,5,6,7,32] [5,7] rfl ?_
  refine spO 32 rfl ?_ ?_ <;> intro h2' <;> try simp only [dq] at h2'
  refine xA tb hM0 2 [0,3,4,5,6,7,32,33,34] [5,7] rfl ?_
  refine oP rfl (pure_addi rfl rfl rfl (by omega)) ?_
  refine oP rfl (pure_call rfl rfl rfl (at_call (by assumption) (by omega)) hM0) ?_
  refine xA tb hM0 4 [0,3,4,5,6,7,38] [5,7] rfl ?_
  refine spC 38 rfl ?_ ?_ <;> intro h3 <;> try simp only [dq] at h3
  refine xA tb hM0 6 [0,3,4,5,6,7,39,40,41] [5,7] rfl ?_
  refine oP rfl (pure_addi rfl rfl rfl (by omega)) ?_
  refine xA tb hM0 1 [0,3,4,5,6,7,39,40,42,43] [5,7] rfl ?_
  refine oP rfl (pure_call rfl rfl rfl (at_call (by assumption) (by omega)) hM0) ?_
  refine oP rfl (pure_index_own rfl Tryz.underlying39 sz83 rfl rfl rfl (by simp only [List.length_map]; have := b5 (by omega); omega)) ?_
  refine xA tb hM0 0 [0,3,4,5,6,7,45] [5,7] rfl ?_
  refine oP rfl (pure_field_pel rfl fd83_1 rfl rfl) ?_
  refine oP rfl (pure_load_pel rfl ag3 rfl rfl (mget (by have := b5 (by omega); omega)) rfl) ?_
  refine xA tb hM0 8 [0,3,4,5,6,7,49,50] [5,7] rfl ?_
  refine oP rfl (pure_addi rfl rfl rfl (by omega)) ?_
  refine oP rfl (pure_call rfl rfl rfl (at_call (by assumption) (by omega)) hM0) ?_
  refine xA tb hM0 7 [0,3,4,5,6,7,54,55] [5,7] rfl ?_
  refine oP rfl (pure_addi rfl rfl rfl (by omega)) ?_
  refine oP rfl (pure_call rfl rfl rfl (at_call (by assumption) (by omega)) hM0) ?_
  refine xA tb hM0 7 [0,3,4,6,59,60] [5] rfl ?_
  refine oP rfl (pure_lit rfl Tryz.underlying39 el83 rfl rfl rfl rfl hM0) ?_
  refine oS rfl (step_append rfl rfl rfl rfl Tryz.underlying39 el83 rfl rfl hM0 (src_pl rfl (one_len (by rfl))) (by first | (simp only [ll]; omega) | omega) (by first | (simp only [ll]; omega) | omega)) rfl ?_
  refine xA tb hM0 6 [0,3,4,5,16] [5] rfl ?_
  refine oP rfl (pure_addi rfl rfl rfl (by omega)) ?_
  refine xA tb hM0 2 [0,3,4,5,6] [5] rfl ?_
  refine nx ?_; rotate_left
  refine xA tb hM0 6 [0,3,4,6,59,60] [5] rfl ?_
  refine oP rfl (pure_lit rfl Tryz.underlying39 el83 rfl rfl rfl rfl hM0) ?_
  refine oS rfl (step_append rfl rfl rfl rfl Tryz.underlying39 el83 rfl rfl hM0 (src_pl rfl (one_len (by rfl))) (by first | (simp only [ll]; omega) | omega) (by first | (simp only [ll]; omega) | omega)) rfl ?_
  refine xA tb hM0 6 [0,3,4,5,16] [5] rfl ?_
  refine oP rfl (pure_addi rfl rfl rfl (by omega)) ?_
  refine xA tb hM0 2 [0,3,4,5,6] [5] rfl ?_
  refine nx ?_; rotate_left
  refine xA tb hM0 14 [0,3,4,6,59,60] [5] rfl ?_
  refine oP rfl (pure_lit rfl Tryz.underlying39 el83 rfl rfl rfl rfl hM0) ?_
  refine oS rfl (step_append rfl rfl rfl rfl Tryz.underlying39 el83 rfl rfl hM0 (src_pl rfl (one_len (by rfl))) (by first | (simp only [ll]; omega) | omega) (by first | (simp only [ll]; omega) | omega)) rfl ?_
  refine xA tb hM0 6 [0,3,4,5,16] [5] rfl ?_
  refine oP rfl (pure_addi rfl rfl rfl (by omega)) ?_
  refine xA tb hM0 2 [0,3,4,5,6] [5] rfl ?_
  refine nx ?_; rotate_left
  refine xA tb hM0 13 [] [] rfl ?_
  refine end_ret rfl ?_
  rw [lettersP, show i = (3 + atL l 0 6).toNat by omega]
  all_goals
    exact ⟨_, ⟨i + 1, rfl, by omega, by rw [lettersN, List.map_append, List.map_singleton, letterI]; first | (rw [if_pos ⟨by omega, by omega⟩]; rfl) | (rw [if_neg (by omega)]; rfl)⟩, by omega⟩
end Go.Proofs.YtgdehkimfmfofaaGreat

namespace Go.Proofs.YtgdehkimfmfofaaGreat
open Go.Am Go.Wb Go.Wc
set_option linter.unusedVariables false
set_option linter.unusedSimpArgs false
theorem small_valid : validA smallP = true := by decide +kernel
theorem fn11 : Fn1 Tryz.prog 11 Tryz.f11.ntmps 4 (Tryz.f11.body.getD .skip) := ⟨Tryz.f11, Tryz.func11, rfl, rfl, rfl, by kernel_rfl⟩
set_option maxRecDepth 100000 in
set_option maxHeartbeats 8000000 in
theorem patterns_law {l m : List Int} (hl : l.length ≤ 9223372036854775807) (h64 : I64s l) (hm : m.length ≤ 9223372036854775807) (m64 : I64s m) : CallW Tryz.prog 11 [ints l, ints m] (.p (bool true)) := by
  have hAB : ∀ i : Nat, i < 2 → validA ([lettersP m, smallP].getD i default) = true := fun i hi => by
    match i, hi with
    | 0, _ => exact lettersP_valid m
    | 1, _ => exact small_valid
  have hxs : ∀ i : Nat, i < 2 → (shapedP l (([lettersP m, smallP].getD i default).length : Int)).size ≤ 49 := fun i hi => by
    have hb := validA_bd (hAB i hi)
    exact (shaped_good l (by omega)).2
  have hpat : ∀ i : Nat, i < 2 → _ := fun i hi => pat_read (sets := []) (hAB i hi) (shaped_good l (by have hb := validA_bd (hAB i hi); omega)).1 (shaped_known l (by have hb := validA_bd (hAB i hi); omega)) (hxs i hi)
  refine callW_of_code fn11 (Nat.le_of_ble_eq_true rfl) fun w0 M0 hM0 hdr => ?_
  refine xC tb hM0 8 [0,16] [] rfl ?_
  refine oP rfl (pure_call rfl rfl rfl (letters_call hm m64) hM0) ?_
  refine xA tb hM0 6 [0,18] [] rfl ?_
  refine oP rfl (pure_call rfl rfl rfl (small_call) hM0) ?_
  refine oP rfl (pure_lit rfl Tryz.underlying55 el39 rfl rfl rfl rfl hM0) ?_
  refine xA tb hM0 10 [0,6,7] [] rfl ?_
  refine lp (fun zm zs => ∃ i : Nat, zm = 2 - i ∧ (i ≤ 2) ∧ zs = ⟨84, [(0, .v .mx (ints l)), (6, .v .pl (.sl [letters (lettersP m), letters smallP])), (7, .v .pl (int i))], []⟩) ?_ ?_
  ·exact ⟨_, 0, rfl, Nat.zero_le _, rfl⟩
  ·rintro zm zs ⟨i, rfl, hL1_0, rfl⟩
   refine xA tb hM0 7 [0,6,7,22] [] rfl ?_
   refine spC 22 rfl ?_ ?_ <;> intro h1 <;> try simp only [dq] at h1
   ·skip
    refine xA tb hM0 9 [0,6,7,25,26] [] rfl ?_
    refine oP rfl (pure_ix (f := letters) (l := [lettersP m, smallP]) rfl Tryz.underlying55 sz39 rfl rfl (by show 0 ≤ (i : Int) ∧ (i : Int) < 2; omega) (fun _ => rfl)) ?_
    refine xA tb hM0 8 [0,6,7,8,29,30] [] rfl ?_
    refine oP rfl (pure_lenm rfl Tryz.underlying39 rfl) ?_
    refine oP rfl (pure_call rfl rfl rfl (shaped_call h64 (by have := validA_bd (hAB i (show i < 2 by omega)); omega) (by have := validA_bd (hAB i (show i < 2 by omega)); omega) hl) hM0) ?_
    refine xA tb hM0 8 [0,6,7,8,9,33,34] [9] rfl ?_
    refine oP rfl (pure_callW hdr rfl rfl rfl (print_call (a := ([lettersP m, smallP].getD i default)) (r := (shapedP l (([lettersP m, smallP].getD i default).length : Int))) (by have := hxs i (show i < 2 by omega); omega) (by have := validA_bd (hAB i (show i < 2 by omega)); omega) (fun x hx => by have := validA_txt (hAB i (show i < 2 by omega)) x hx; omega)) hM0) ?_
    refine xA tb hM0 6 [0,6,7,8,9,10,37] [9] rfl ?_
    refine oP rfl (pure_call rfl rfl rfl (wbytes_call (by have := (hpat i (show i < 2 by omega)).2.2.1; omega)) hM0) ?_
    refine oP rfl (pure_call rfl rfl rfl (getbytes_call (by have := (hpat i (show i < 2 by omega)).2.2.1; omega)) hM0) ?_
    refine xA tb hM0 13 [0,6,7,8,9,10,11,12,13,44,45] [9] rfl ?_
    refine oP rfl (pure_call rfl rfl rfl (parse_call (a := ([lettersP m, smallP].getD i default)) (sets := []) (by have := (hpat i (show i < 2 by omega)).2.2.1; omega) (by have := validA_bd (hAB i (show i < 2 by omega)); omega) (fun x hx => by have := validA_txt (hAB i (show i < 2 by omega)) x hx; omega) (by decide) (fun x hx => by cases hx)) hM0) ?_
    refine xA tb hM0 9 [0,6,7,8,9,10,11,12,13,14,15] [9,14] rfl ?_
    refine code_draw mixed (by kernel_rfl) _ rfl ?_
    refine dl_pure rfl rfl rfl (pure_move rfl rfl) ?_
    refine dl_pure rfl rfl rfl (pure_callb (b' := true) rfl rfl rfl (validA_call (a := ([lettersP m, smallP].getD i default)) (by have := validA_bd (hAB i (show i < 2 by omega)); omega) (fun x hx => by have := validA_txt (hAB i (show i < 2 by omega)) x hx; omega)) hM0 (hAB i (show i < 2 by omega))) ?_
    refine dl_pure rfl rfl rfl (pure_to (b' := false) (pure_not rfl rfl) (by decide)) ?_
    refine dl_pure rfl rfl rfl (pure_move rfl rfl) ?_
    refine dl_pure_g rfl rfl rfl rfl rfl (pure_move rfl rfl) ?_
    refine dl_pure_g rfl rfl rfl rfl rfl (pure_to (b' := false) (pure_neq rfl rfl rfl) (by decide)) ?_
    refine dl_pure rfl rfl rfl (pure_pick_f rfl rfl rfl rfl) ?_
    refine dpk 84 [(0,_),(6,_),(7,_),(8,_),(9,_),(10,_),(11,_),(12,_),(14,_),(15,_),(55,_)] [(9,_),(14,_)] rfl rfl rfl ?_
    refine dl_pure rfl rfl rfl (pure_move rfl rfl) ?_
    refine dl_pure_g rfl rfl rfl rfl rfl (pure_move rfl rfl) ?_
    refine dl_pure_g rfl rfl rfl rfl rfl (pure_to (b' := false) (pure_eql rfl rfl rfl) (decide_eq_false (by omega))) ?_
    refine dl_pure rfl rfl rfl (pure_pick_f rfl rfl rfl rfl) ?_
    refine dl_pure rfl rfl rfl (pure_move rfl rfl) ?_
    refine dl_pure_g rfl rfl rfl rfl rfl (pure_move rfl rfl) ?_
    refine dl_pure_g rfl rfl rfl rfl rfl (pure_move rfl rfl) ?_
    refine dpk 84 [(0,_),(6,_),(7,_),(8,_),(9,_),(10,_),(14,_),(15,_),(60,_),(61,_),(62,_)] [(9,_),(14,_)] rfl rfl rfl ?_
    refine dl_pure_g rfl rfl rfl rfl rfl (pure_to (b' := false) (pure_sneq rfl rfl rfl) (by rw [decide_eq_true rfl]; rfl)) ?_
    refine dl_pure rfl rfl rfl (pure_pick_f rfl rfl rfl rfl) ?_
    refine dl_pure rfl rfl rfl (pure_move rfl rfl) ?_
    refine dl_pure_g rfl rfl rfl rfl rfl (pure_move rfl rfl) ?_
    refine dl_pure_g rfl rfl rfl rfl rfl (pure_to (b' := false) (pure_neq rfl rfl rfl) (by rw [(hpat i (show i < 2 by omega)).1]; rfl)) ?_
    refine dl_pure rfl rfl rfl (pure_pick_f rfl rfl rfl rfl) ?_
    refine dl_pure rfl rfl rfl (pure_move rfl rfl) ?_
    refine dpk 84 [(0,_),(6,_),(7,_),(8,_),(9,_),(10,_),(14,_),(69,_)] [(9,_),(14,_)] rfl rfl rfl ?_
    refine dl_pure_g rfl rfl rfl rfl rfl (pure_load_box_agg rfl ag25 sz25 rfl rfl rfl rfl) ?_
    refine dl_pure_g rfl rfl rfl rfl rfl (pure_load_box_agg rfl ag25 sz25 rfl rfl rfl rfl) ?_
    refine dl_pure_g rfl rfl rfl rfl rfl (pure_call rfl rfl rfl (simS_call (r := (shapedP l (([lettersP m, smallP].getD i default).length : Int))) (by have := hxs i (show i < 2 by omega); omega)) hM0) ?_
    refine dl_pure_g rfl rfl rfl rfl rfl (pure_callb (b' := true) rfl rfl rfl (same_call (a := (parseP ([lettersP m, smallP].getD i default) [] (printP ([lettersP m, smallP].getD i default) (shapedP l (([lettersP m, smallP].getD i default).length : Int)))).1) (b := simR (shapedP l (([lettersP m, smallP].getD i default).length : Int))) (by rw [(hpat i (show i < 2 by omega)).1]; have := (hpat i (show i < 2 by omega)).2.2.2; show (simR (shapedP l (([lettersP m, smallP].getD i default).length : Int))).size ≤ _; omega) (by have := (hpat i (show i < 2 by omega)).2.2.2; omega)) hM0 (by rw [(hpat i (show i < 2 by omega)).1]; exact same_eq rfl)) ?_
    refine dl_pure_g rfl rfl rfl rfl rfl (pure_to (b' := false) (pure_not rfl rfl) (by decide)) ?_
    refine dl_pure rfl rfl rfl (pure_pick_f rfl rfl rfl rfl) ?_
    refine dl_pure rfl rfl rfl (pure_move rfl rfl) ?_
    refine dpk 84 [(0,_),(6,_),(7,_),(8,_),(10,_),(14,_),(76,_)] [(9,_),(14,_)] rfl rfl rfl ?_
    refine dl_pure_g rfl rfl rfl rfl rfl (pure_load_box_agg rfl ag25 sz25 rfl rfl rfl rfl) ?_
    refine dl_pure_g rfl rfl rfl rfl rfl (pure_move rfl rfl) ?_
    refine dl_pure_g rfl rfl rfl rfl rfl (pure_callW hdr rfl rfl rfl (print_call (a := ([lettersP m, smallP].getD i default)) (r := (parseP ([lettersP m, smallP].getD i default) [] (printP ([lettersP m, smallP].getD i default) (shapedP l (([lettersP m, smallP].getD i default).length : Int)))).1) (by rw [(hpat i (show i < 2 by omega)).1]; have := (hpat i (show i < 2 by omega)).2.2.2; show (simR (shapedP l (([lettersP m, smallP].getD i default).length : Int))).size ≤ _; omega) (by have := validA_bd (hAB i (show i < 2 by omega)); omega) (fun x hx => by have := validA_txt (hAB i (show i < 2 by omega)) x hx; omega)) hM0) ?_
    refine dl_pure_g rfl rfl rfl rfl rfl (pure_move rfl rfl) ?_
    refine dl_pure_g rfl rfl rfl rfl rfl (pure_to (b' := false) (pure_sneq rfl rfl rfl) (by rw [(hpat i (show i < 2 by omega)).1, decide_eq_true (hpat i (show i < 2 by omega)).2.1]; rfl)) ?_
    refine dl_pure rfl rfl rfl (pure_pick_f rfl rfl rfl rfl) ?_
    refine dl_nil ?_
    refine xD tb hM0 7 [0,6,23] [] rfl ?_
    refine oP rfl (pure_addi rfl rfl rfl (by omega)) ?_
    refine xA tb hM0 2 [0,6,7] [] rfl ?_
    refine nx ?_
    exact ⟨_, ⟨i + 1, rfl, by omega, rfl⟩, by omega⟩
   ·skip
    refine xA tb hM0 8 [] [] rfl ?_
    refine oP rfl (pure_callW hdr rfl rfl rfl (lives_call) hM0) ?_
    refine xA tb hM0 4 [] [] rfl ?_
    refine end_ret rfl ?_
    rfl
end Go.Proofs.YtgdehkimfmfofaaGreat

namespace Go.Proofs.YtgdehkimfmfofaaGreat
open Go.Am Go.Wb Go.Wc
set_option linter.unusedVariables false
set_option linter.unusedSimpArgs false
/-! The statement RegexPatternsSaid. -/
namespace regexPatterns
open Go.ChangeShapes Go.WideShapes Go.ChangeAt Go.RowKit Go.Am
theorem own : ownKnob Tryz.prog.godebug = none := by kernel_rfl
set_option maxRecDepth 100000 in
theorem lifted (os : Os) (started : os.Started) (H : Type) (enc : TypeId × Value → H) :
    ReturnsInHanded {} Tryz.checked os 11 .any (Rows.regexPatternsSpec.pre6 enc Tryz.prog Tryz.f11 Rows.regexPatternsRow.domain false) (Rows.regexPatternsSpec.post enc Tryz.prog Tryz.f11 false true false false) := by
  refine returnsInHanded_of_change (C := Tryz.checked) own started (by kernel_rfl) Tryz.func11
    (ChangeSpec.witness6 (enc := enc) (C := Tryz.checked) false ⟨#[], #[.slice none 0 0, .slice none 0 0], []⟩ 8 (by kernel_rfl) (by kernel_rfl) (by kernel_rfl) (by kernel_rfl)) ?_
  intro W base args ds gs before hval0 hW hcnd _
  have hval : ∀ (j : Nat) t v, Tryz.f11.params[j]? = some t → args[j]? = some v → Value.okWide Tryz.prog W .any base t v := hval0
  have hW' := hW
  obtain ⟨p, q, hA0, hV, rfl, hfz, hnd⟩ := hW
  have hA : DataW.TrodAll enc Tryz.prog W 0 (fun _ => true) true Tryz.f11.params.toList args.toList ds p := hA0
  rw [Tryz.params11] at hA hval
  obtain ⟨v0, vs0, d0, ds0, p0, q0, hargs, rfl, rfl, h0, r0⟩ := trodAll_cons hA
  obtain ⟨v1, vs1, d1, ds1, p1, q1, rfl, rfl, rfl, h1, r1⟩ := trodAll_cons r0
  obtain ⟨rfl, rfl, rfl⟩ := trodAll_nil r1
  obtain rfl : args = #[v0, v1] := by cases args; simp_all
  obtain ⟨x0, y0, z0, e0⟩ := open_intsA Tryz.underlying22 Tryz.underlying3 sz3 (hval 0 22 v0 rfl rfl) h0
  obtain ⟨x1, y1, z1, e1⟩ := open_intsA Tryz.underlying22 Tryz.underlying3 sz3 (hval 1 22 v1 rfl rfl) h1
  have hcall := (patterns_law z0 y0 z1 y1).use (w := W) (vs := [v0, v1]) ⟨e0, e1, trivial⟩
  exact law_post (tb := 4) (by kernel_rfl) (by kernel_rfl) (by kernel_rfl) Tryz.underlying4 rfl rfl hW' hcall
theorem over : Rows.regexPatternsRow.holds Tryz.pinned (OpenSpec.ofChange Rows.regexPatternsSpec) :=
  OpenClaim.holds_of_wide 11 Tryz.f11 rfl rfl rfl rfl rfl rfl rfl ⟨rfl, rfl, rfl, rfl, rfl⟩ rfl rfl rfl rfl rfl (by kernel_rfl) Tryz.func11 (by kernel_rfl)
    (of_decide_eq_true (by kernel_rfl)) (by unfold Func.isWrapper; first | (rw [if_pos (by decide +kernel)]; kernel_rfl) | (rw [if_neg (by decide +kernel)]; exact ⟨rfl, rfl⟩))
    (fun os started H enc _ => lifted os started H enc)
end regexPatterns
theorem regexPatterns_holds : Rows.RegexPatternsSaid := regexPatterns.over
end Go.Proofs.YtgdehkimfmfofaaGreat

