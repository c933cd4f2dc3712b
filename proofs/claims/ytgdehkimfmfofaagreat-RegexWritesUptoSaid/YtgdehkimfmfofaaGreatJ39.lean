/-
  The law RegexWrites holds for inputs of bulk at most 1048576: it returns true, and its arguments read as before.
-/
import Derived.Test.YtgdehkimfmfofaaGreatJ30
import Derived.Test.YtgdehkimfmfofaaGreatJ23
import Derived.Test.YtgdehkimfmfofaaGreatJ21
import Derived.Test.YtgdehkimfmfofaaGreatJ34
import Derived.Test.YtgdehkimfmfofaaGreatJ38
import Derived.Test.YtgdehkimfmfofaaGreatJ22
import Derived.JoinedCond
set_option linter.unusedVariables false
set_option linter.unusedSimpArgs false
namespace Go.Proofs.YtgdehkimfmfofaaGreat
open Go.Am Go.Wc
set_option linter.unusedVariables false
set_option linter.unusedSimpArgs false
theorem fn65 : Fn1 Tryz.prog 65 Tryz.f65.ntmps 2 (Tryz.f65.body.getD .skip) := ⟨Tryz.f65, Tryz.func65, rfl, rfl, rfl, by kernel_rfl⟩
set_option maxRecDepth 100000 in
theorem pool_call {n : Int} (hn : 0 ≤ n ∧ n < 16) : CallF Tryz.prog 65 [int n] (.p (sbytes (poolL.getD n.toNat default))) := by
  refine callF_of_code fn65 (Nat.le_of_ble_eq_true rfl) fun w0 M0 hM0 => ?_
  refine xC tb hM0 7 [0] [] rfl ?_
  refine oP rfl (pure_lit rfl Tryz.underlying111 el9 rfl rfl rfl rfl hM0) ?_
  refine xA tb hM0 1 [3,4] [] rfl ?_
  refine oP rfl (pure_indexm (f := sbytes) (l := poolL) rfl Tryz.underlying111 sz9 rfl rfl (by simp only [List.length_cons, List.length_nil]; omega) (fun _ => rfl)) ?_
  refine xA tb hM0 5 [] [] rfl ?_
  refine end_ret rfl ?_
  rfl
theorem fn38 : Fn1 Tryz.prog 38 Tryz.f38.ntmps 0 (Tryz.f38.body.getD .skip) := ⟨Tryz.f38, Tryz.func38, rfl, rfl, rfl, by kernel_rfl⟩
set_option maxRecDepth 100000 in
theorem small_call : CallF Tryz.prog 38 [] (.p (letters smallP)) := by
  refine callF_of_code fn38 (Nat.le_of_ble_eq_true rfl) fun w0 M0 hM0 => ?_
  refine xC tb hM0 17 [1,2,3,4,5,6,7,8,9,10] [] rfl ?_
  refine oP rfl (pure_lit rfl Tryz.underlying39 el83 rfl rfl rfl rfl hM0) ?_
  refine xA tb hM0 4 [] [] rfl ?_
  refine end_ret rfl ?_
  rfl
theorem fn34 : Fn1 Tryz.prog 34 Tryz.f34.ntmps 2 (Tryz.f34.body.getD .skip) := ⟨Tryz.f34, Tryz.func34, rfl, rfl, rfl, by kernel_rfl⟩
set_option maxRecDepth 100000 in
set_option maxHeartbeats 2000000 in
theorem letters_call {l : List Int} (hl : l.length ≤ 9223372036854775807) (h64 : I64s l) : CallF Tryz.prog 34 [ints l] (.fresh 83 ((lettersP l).map letter)) := by
  have a0 := atL_lt (l := l) (i := 0) (most := 6) (by decide)
  have a1 := atL_lt (l := l) (i := 1) (most := 16) (by decide)
  refine callF_of_code fn34 (Nat.le_of_ble_eq_true rfl) fun w0 M0 hM0 => ?_
  refine xC tb hM0 2 [0] [] rfl ?_
  refine oS rfl (step_nil rfl rfl rfl rfl rfl 83 hM0) rfl ?_
  refine xA tb hM0 5 [0,8] [] rfl ?_
  refine oP rfl (pure_call rfl rfl rfl (at_call (by assumption) (by omega)) hM0) ?_
  refine oP rfl (pure_addi rfl rfl rfl (by omega)) ?_
  refine xA tb hM0 6 [0,3,11] [] rfl ?_
  refine oP rfl (pure_call rfl rfl rfl (at_call (by assumption) (by omega)) hM0) ?_
  refine xA tb hM0 5 [0,3,4] [] rfl ?_
  refine oS rfl (step_nil rfl rfl rfl rfl rfl 83 hM0) rfl ?_
  refine xA tb hM0 9 [0,3,4,5,6] [5] rfl ?_
  refine lp (fun zm zs => ∃ i : Nat, zm = (3 + atL l 0 6).toNat - i ∧ (i ≤ (3 + atL l 0 6).toNat) ∧ zs = ⟨64, [(0, .v .mx (ints l)), (3, .v .pl (int (3 + atL l 0 6))), (4, .v .pl (int (atL l 1 16))), (5, .own 5), (6, .v .pl (int i))], [(5, .arr 83 ((lettersN l (atL l 1 16) i).map letter))]⟩) ?_ ?_
  exact ⟨_, 0, rfl, Nat.zero_le _, rfl⟩
  rintro zm zs ⟨i, rfl, hL1_0, rfl⟩
  have b1 := atL_lt (l := l) (i := 2 + i) (most := 9) (by decide)
  have b2 := atL_lt (l := l) (i := 10 + i) (most := 3) (by decide)
  have b3 := atL_lt (l := l) (i := 30 + i) (most := 4) (by decide)
  have b4 := atL_lt (l := l) (i := 40 + i) (most := 2) (by decide)
  have b5 := fun h : 0 < (i : Int) => atL_lt (l := l) (i := 20 + i) (most := i) h
  have b6 := lettersN_len l (atL l 1 16) i
  refine xA tb hM0 8 [0,3,4,5,6,15] [5] rfl ?_
  refine spC 15 rfl ?_ ?_ <;> intro h1 <;> try simp only [dq] at h1
  refine xA tb hM0 9 [0,3,4,5,6,18,19] [5] rfl ?_
  refine oP rfl (pure_addi rfl rfl rfl (by omega)) ?_
  refine oP rfl (pure_remn rfl rfl rfl (by omega)) ?_
  refine xA tb hM0 0 [0,3,4,5,6,21] [5] rfl ?_
  refine oP rfl (pure_call rfl rfl rfl (pool_call (by omega)) hM0) ?_
  refine xA tb hM0 3 [0,3,4,5,6,22,23,24,25] [5] rfl ?_
  refine oP rfl (pure_addi rfl rfl rfl (by omega)) ?_
  refine oP rfl (pure_call rfl rfl rfl (at_call (by assumption) (by omega)) hM0) ?_
  refine xA tb hM0 0 [0,3,4,5,6,22,23,27] [5] rfl ?_
  refine oP rfl (pure_addi rfl rfl rfl (by omega)) ?_
  refine xA tb hM0 11 [0,3,4,5,6,7,32] [5,7] rfl ?_
  refine spO 32 rfl ?_ ?_ <;> intro h2' <;> try simp only [dq] at h2'
  refine xA tb hM0 2 [0,3,4,5,6,7,32,33,34] [5,7] rfl ?_
  refine oP rfl (pure_addi rfl rfl rfl (by omega)) ?_
  refine oP rfl (pure_call rfl rfl rfl (at_call (by assumption) (by omega)) hM0) ?_
  refine xA tb hM0 4 [0,3,4,5,6,7,38] [5,7] rfl ?_
  refine spC 38 rfl ?_ ?_ <;> intro h3 <;> try simp only [dq] at h3
  refine xA tb hM0 6 [0,3,4,5,6,7,39,40,41] [5,7] rfl ?_
  refine oP rfl (pure_addi rfl rfl rfl (by omega)) ?_
  refine xA tb hM0 1 [0,3,4,5,6,7,39,40,42,43] [5,7] rfl ?_
  refine oP rfl (pure_call rfl rfl rfl (at_call (by assumption) (by omega)) hM0) ?_
  refine oP rfl (pure_index_own rfl Tryz.underlying39 sz83 rfl rfl rfl (by simp only [List.length_map]; have := b5 (by omega); omega)) ?_
  refine xA tb hM0 0 [0,3,4,5,6,7,45] [5,7] rfl ?_
  refine oP rfl (pure_field_pel rfl fd83_1 rfl rfl) ?_
  refine oP rfl (pure_load_pel rfl ag3 rfl rfl (mget (by have := b5 (by omega); omega)) rfl) ?_
  refine xA tb hM0 8 [0,3,4,5,6,7,49,50] [5,7] rfl ?_
  refine oP rfl (pure_addi rfl rfl rfl (by omega)) ?_
  refine oP rfl (pure_call rfl rfl rfl (at_call (by assumption) (by omega)) hM0) ?_
  refine xA tb hM0 7 [0,3,4,5,6,7,54,55] [5,7] rfl ?_
  refine oP rfl (pure_addi rfl rfl rfl (by omega)) ?_
  refine oP rfl (pure_call rfl rfl rfl (at_call (by assumption) (by omega)) hM0) ?_
  refine xA tb hM0 7 [0,3,4,6,59,60] [5] rfl ?_
  refine oP rfl (pure_lit rfl Tryz.underlying39 el83 rfl rfl rfl rfl hM0) ?_
  refine oS rfl (step_append rfl rfl rfl rfl Tryz.underlying39 el83 rfl rfl hM0 (src_pl rfl (one_len (by rfl))) (by first | (simp only [ll]; omega) | omega) (by first | (simp only [ll]; omega) | omega)) rfl ?_
  refine xA tb hM0 6 [0,3,4,5,16] [5] rfl ?_
  refine oP rfl (pure_addi rfl rfl rfl (by omega)) ?_
  refine xA tb hM0 2 [0,3,4,5,6] [5] rfl ?_
  refine nx ?_; rotate_left
  refine xA tb hM0 6 [0,3,4,6,59,60] [5] rfl ?_
  refine oP rfl (pure_lit rfl Tryz.underlying39 el83 rfl rfl rfl rfl hM0) ?_
  refine oS rfl (step_append rfl rfl rfl rfl Tryz.underlying39 el83 rfl rfl hM0 (src_pl rfl (one_len (by rfl))) (by first | (simp only [ll]; omega) | omega) (by first | (simp only [ll]; omega) | omega)) rfl ?_
  refine xA tb hM0 6 [0,3,4,5,16] [5] rfl ?_
  refine oP rfl (pure_addi rfl rfl rfl (by omega)) ?_
  refine xA tb hM0 2 [0,3,4,5,6] [5] rfl ?_
  refine nx ?_; rotate_left
  refine xA tb hM0 14 [0,3,4,6,59,60] [5] rfl ?_
  refine oP rfl (pure_lit rfl Tryz.underlying39 el83 rfl rfl rfl rfl hM0) ?_
  refine oS rfl (step_append rfl rfl rfl rfl Tryz.underlying39 el83 rfl rfl hM0 (src_pl rfl (one_len (by rfl))) (by first | (simp only [ll]; omega) | omega) (by first | (simp only [ll]; omega) | omega)) rfl ?_
  refine xA tb hM0 6 [0,3,4,5,16] [5] rfl ?_
  refine oP rfl (pure_addi rfl rfl rfl (by omega)) ?_
  refine xA tb hM0 2 [0,3,4,5,6] [5] rfl ?_
  refine nx ?_; rotate_left
  refine xA tb hM0 13 [] [] rfl ?_
  refine end_ret rfl ?_
  rw [lettersP, show i = (3 + atL l 0 6).toNat by omega]
  all_goals
    exact ⟨_, ⟨i + 1, rfl, by omega, by rw [lettersN, List.map_append, List.map_singleton, letterI]; first | (rw [if_pos ⟨by omega, by omega⟩]; rfl) | (rw [if_neg (by omega)]; rfl)⟩, by omega⟩
end Go.Proofs.YtgdehkimfmfofaaGreat

namespace Go.Proofs.YtgdehkimfmfofaaGreat
open Go.Am Go.Wb Go.Wc
set_option linter.unusedVariables false
set_option linter.unusedSimpArgs false
theorem str_ne {p q : List UInt8} (h : p = q) : (!(decide (p = q))) = false := by rw [decide_eq_true h]; rfl
theorem print_nil (r : Rx) : printP [] r = [] := by unfold printP; rw [if_neg fun q => by have h := q.2.1; revert h; decide]
theorem fn7 : Fn1 Tryz.prog 7 Tryz.f7.ntmps 6 (Tryz.f7.body.getD .skip) := ⟨Tryz.f7, Tryz.func7, rfl, rfl, rfl, by kernel_rfl⟩
set_option maxRecDepth 100000 in
set_option maxHeartbeats 8000000 in
theorem writes_law {r : Rx} {l m : List Int} (hr : r.size ≤ 1048576) (hl : l.length ≤ 9223372036854775807) (h64 : I64s l) (hm : m.length ≤ 9223372036854775807) (m64 : I64s m) : CallW Tryz.prog 7 [rx r, ints l, ints m] (.p (bool true)) := by
  have hal := lettersP_len m
  have hat : ∀ x ∈ lettersP m, x.text.length ≤ 1099511627776 := fun x hx => by have := validA_txt (lettersP_valid m) x hx; omega
  have hst : ∀ x ∈ smallP, x.text.length ≤ 1099511627776 := by decide
  have hsl : smallP.length ≤ 1099511627776 := by decide
  have hnt : ∀ x ∈ ([] : List Letter), x.text.length ≤ 1099511627776 := fun x hx => by cases hx
  obtain ⟨hx, hx2⟩ := shaped_good l (show (0 : Int) < ((lettersP m).length : Int) + 1 ∧ ((lettersP m).length : Int) + 1 ≤ 64 by omega)
  refine callW_of_code fn7 (Nat.le_of_ble_eq_true rfl) fun w0 M0 hM0 hdr => ?_
  refine xC tb hM0 2 [0,1,2] [] rfl ?_
  refine oP rfl (pure_box rfl rfl rfl hM0) ?_
  refine xA tb hM0 6 [1,3,9] [] rfl ?_
  refine oP rfl (pure_call rfl rfl rfl (letters_call hm m64) hM0) ?_
  refine xA tb hM0 3 [1,3,7] [] rfl ?_
  refine ct (fun zs => zs = ⟨50, [(1, .v .mx (ints l)), (7, .v .pl (letters (lettersP m)))], []⟩) ?_ ?_
  refine xA tb hM0 3 [1,3,7,11] [] rfl ?_
  refine oP rfl (pure_call rfl rfl rfl (nodes_call (by decide) (by decide) _ r (Nat.le_refl _) hr) hM0) ?_
  refine xA tb hM0 3 [1,3,7,13] [] rfl ?_
  refine spC 13 rfl ?_ ?_ <;> intro h1 <;> try simp only [dq] at h1
  refine xA tb hM0 2 [1,3,7] [] rfl ?_
  refine code_draw mixed (by kernel_rfl) _ rfl ?_
  refine dl_pure rfl rfl rfl (pure_load_agg rfl ag25 sz25 rfl (Nat.le_of_ble_eq_true rfl)) ?_
  refine dl_pure rfl rfl rfl (pure_move rfl rfl) ?_
  refine dl_pure rfl rfl rfl (pure_callW hdr rfl rfl rfl (print_call (a := (lettersP m)) (r := r) (by omega) (by omega) hat) hM0) ?_
  refine dl_pure rfl rfl rfl (pure_load_agg rfl ag25 sz25 rfl (Nat.le_of_ble_eq_true rfl)) ?_
  refine dl_pure rfl rfl rfl (pure_move rfl rfl) ?_
  refine dl_pure rfl rfl rfl (pure_callW hdr rfl rfl rfl (rprint_call (a := (lettersP m)) (r := r) (by omega) (by omega) hat) hM0) ?_
  refine dl_pure rfl rfl rfl (pure_to (b' := false) (pure_sneq rfl rfl rfl) (str_ne rfl)) ?_
  refine dpk 50 [(1,_),(3,_),(7,_),(20,_)] [] rfl rfl rfl ?_
  refine dl_pure rfl rfl rfl (pure_move rfl rfl) ?_
  refine dl_pure_g rfl rfl rfl rfl rfl (pure_load_agg rfl ag25 sz25 rfl (Nat.le_of_ble_eq_true rfl)) ?_
  refine dl_pure_g rfl rfl rfl rfl rfl (pure_callW hdr rfl rfl rfl (print_call (a := []) (r := r) (by omega) (by decide) hnt) hM0) ?_
  refine dl_pure_g rfl rfl rfl rfl rfl (pure_to (b' := false) (pure_sneq rfl rfl rfl) (str_ne (print_nil r))) ?_
  refine dl_pure rfl rfl rfl (pure_to (b' := false) (pure_pick_f rfl rfl rfl rfl) (by decide)) ?_
  refine dl_nil ?_
  refine xD tb hM0 3 [1,7] [] rfl ?_
  refine cx ?_
  exact rfl
  refine xA tb hM0 2 [1,7] [] rfl ?_
  refine cx ?_
  exact rfl
  rintro zs ⟨rfl⟩
  refine xA tb hM0 4 [7,26,27] [] rfl ?_
  refine oP rfl (pure_lenm rfl Tryz.underlying39 rfl) ?_
  refine oP rfl (pure_addi rfl rfl rfl (by omega)) ?_
  refine xA tb hM0 0 [7,26,29] [] rfl ?_
  refine oP rfl (pure_call rfl rfl rfl (shaped_call h64 (by omega) (by omega) hl) hM0) ?_
  refine xA tb hM0 5 [7,8] [8] rfl ?_
  refine code_draw mixed (by kernel_rfl) _ rfl ?_
  refine dl_pure rfl rfl rfl (pure_load_box_agg rfl ag25 sz25 rfl rfl rfl rfl) ?_
  refine dl_pure rfl rfl rfl (pure_move rfl rfl) ?_
  refine dl_pure rfl rfl rfl (pure_callW hdr rfl rfl rfl (print_call (a := (lettersP m)) (r := (shapedP l (((lettersP m).length : Int) + 1))) (by omega) (by omega) hat) hM0) ?_
  refine dl_pure rfl rfl rfl (pure_load_box_agg rfl ag25 sz25 rfl rfl rfl rfl) ?_
  refine dl_pure rfl rfl rfl (pure_move rfl rfl) ?_
  refine dl_pure rfl rfl rfl (pure_callW hdr rfl rfl rfl (rprint_call (a := (lettersP m)) (r := (shapedP l (((lettersP m).length : Int) + 1))) (by omega) (by omega) hat) hM0) ?_
  refine dl_pure rfl rfl rfl (pure_to (b' := true) (pure_seql rfl rfl rfl) (decide_eq_true rfl)) ?_
  refine dpk 50 [(8,_),(37,_)] [(8,_)] rfl rfl rfl ?_
  refine dl_pure rfl rfl rfl (pure_move rfl rfl) ?_
  refine dl_pure_g rfl rfl rfl rfl rfl (pure_load_box_agg rfl ag25 sz25 rfl rfl rfl rfl) ?_
  refine dl_pure_g rfl rfl rfl rfl rfl (pure_call rfl rfl rfl (small_call) hM0) ?_
  refine dl_pure_g rfl rfl rfl rfl rfl (pure_callW hdr rfl rfl rfl (print_call (a := smallP) (r := (shapedP l (((lettersP m).length : Int) + 1))) (by omega) hsl hst) hM0) ?_
  refine dl_pure_g rfl rfl rfl rfl rfl (pure_load_box_agg rfl ag25 sz25 rfl rfl rfl rfl) ?_
  refine dl_pure_g rfl rfl rfl rfl rfl (pure_call rfl rfl rfl (small_call) hM0) ?_
  refine dl_pure_g rfl rfl rfl rfl rfl (pure_callW hdr rfl rfl rfl (rprint_call (a := smallP) (r := (shapedP l (((lettersP m).length : Int) + 1))) (by omega) hsl hst) hM0) ?_
  refine dpk 50 [(38,_),(41,_),(44,_)] [(8,_)] rfl rfl rfl ?_
  refine dl_pure_g rfl rfl rfl rfl rfl (pure_to (b' := true) (pure_seql rfl rfl rfl) (decide_eq_true rfl)) ?_
  refine dl_pure rfl rfl rfl (pure_to (b' := true) (pure_pick_t rfl rfl rfl rfl) (by decide)) ?_
  refine dl_pure rfl rfl rfl (pure_move rfl rfl) ?_
  refine dl_pure_g rfl rfl rfl rfl rfl (pure_to (b' := true) (pure_callW (r := .p (bool true)) hdr rfl rfl rfl (lives_call) hM0) (rfl)) ?_
  refine dl_pure rfl rfl rfl (pure_to (b' := true) (pure_pick_t rfl rfl rfl rfl) (by decide)) ?_
  refine dl_pure rfl rfl rfl (pure_assign rfl rfl) ?_
  refine dl_nil ?_
  refine xD tb hM0 2 [] [] rfl ?_
  refine end_ret rfl ?_
  rfl
end Go.Proofs.YtgdehkimfmfofaaGreat

namespace Go.Proofs.YtgdehkimfmfofaaGreat
open Go.Am Go.Wb Go.Wc
set_option linter.unusedVariables false
set_option linter.unusedSimpArgs false
/-! The statement RegexWritesUptoSaid. -/
namespace regexWrites
open Go.ChangeShapes Go.WideShapes Go.ChangeAt Go.RowKit Go.Am
theorem own : ownKnob Tryz.prog.godebug = none := by kernel_rfl
set_option maxRecDepth 100000 in
theorem lifted (os : Os) (started : os.Started) (H : Type) (enc : TypeId × Value → H) (F : Stop.Interp) :
    ReturnsInHanded {} Tryz.checked os 7 .any ((Rows.OpenSpec.upto Rows.regexWritesSpec).pre6 enc Tryz.prog Tryz.f7 Rows.regexWritesUptoRow.domain false) (((Rows.OpenSpec.upto Rows.regexWritesSpec).at F).post enc Tryz.prog Tryz.f7 false true false false) := by
  refine returnsInHanded_of_cond (C := Tryz.checked) (k := Rows.uptoSmall) rfl own started (by kernel_rfl) Tryz.func7
    (OpenSpec.witness (enc := enc) (C := Tryz.checked) (k := Rows.uptoSmall) rfl false ⟨#[], #[.agg #[.int .i64 0, .slice none 0 0, .slice none 0 0], .slice none 0 0, .slice none 0 0], []⟩ 8 (by kernel_rfl) (by kernel_rfl) (by kernel_rfl) (x := ([.agg [.lit (.int .i64 0), .nil, .nil], .nil, .nil], [], [])) (by kernel_rfl) (by kernel_rfl) (by kernel_rfl)) ?_
  intro W base args ds gs before hval0 hW hcnd hsm _
  have hval : ∀ (j : Nat) t v, Tryz.f7.params[j]? = some t → args[j]? = some v → Value.okWide Tryz.prog W .any base t v := hval0
  have hW' := hW
  obtain ⟨p, q, hA0, hV, rfl, hfz, hnd⟩ := hW
  have hbulk : Rows.uptoBulkAll (ds ++ gs) ≤ 1048576 := of_decide_eq_true hsm
  have hA : DataW.TrodAll enc Tryz.prog W 0 (fun _ => true) true Tryz.f7.params.toList args.toList ds p := hA0
  rw [Tryz.params7] at hA hval
  obtain ⟨v0, vs0, d0, ds0, p0, q0, hargs, rfl, rfl, h0, r0⟩ := trodAll_cons hA
  obtain ⟨v1, vs1, d1, ds1, p1, q1, rfl, rfl, rfl, h1, r1⟩ := trodAll_cons r0
  obtain ⟨v2, vs2, d2, ds2, p2, q2, rfl, rfl, rfl, h2, r2⟩ := trodAll_cons r1
  obtain ⟨rfl, rfl, rfl⟩ := trodAll_nil r2
  obtain rfl : args = #[v0, v1, v2] := by cases args; simp_all
  simp only [List.cons_append, List.nil_append, Rows.uptoBulkAll] at hbulk
  obtain ⟨x0, b0, e0⟩ := open_rxA Tryz.underlying25 ⟨rfl, rfl⟩ ⟨rfl, rfl⟩ ⟨rfl, rfl⟩ Tryz.underlying3 Tryz.underlying22 Tryz.underlying23 sz3 sz22 sz23 sz25 (hval 0 25 v0 rfl rfl) h0
  have y0 : x0.size ≤ 1048576 := by omega
  obtain ⟨x1, y1, z1, e1⟩ := open_intsA Tryz.underlying22 Tryz.underlying3 sz3 (hval 1 22 v1 rfl rfl) h1
  obtain ⟨x2, y2, z2, e2⟩ := open_intsA Tryz.underlying22 Tryz.underlying3 sz3 (hval 2 22 v2 rfl rfl) h2
  have hcall := (writes_law y0 z1 y1 z2 y2).use (w := W) (vs := [v0, v1, v2]) ⟨e0, e1, e2, trivial⟩
  exact law_post (s := Rows.regexWritesSpec) (tb := 4) (by kernel_rfl) (by kernel_rfl) (by kernel_rfl) Tryz.underlying4 rfl rfl hW' hcall
theorem over : Rows.regexWritesUptoRow.holds Tryz.pinned (Rows.OpenSpec.upto Rows.regexWritesSpec) :=
  OpenClaim.holds_of_cond 7 Tryz.f7 rfl rfl rfl rfl rfl rfl rfl ⟨rfl, rfl, rfl, rfl, rfl⟩ rfl rfl rfl rfl rfl (by kernel_rfl) Tryz.func7 (by kernel_rfl)
    (of_decide_eq_true (by kernel_rfl)) (by unfold Func.isWrapper; first | (rw [if_pos (by decide +kernel)]; kernel_rfl) | (rw [if_neg (by decide +kernel)]; exact ⟨rfl, rfl⟩))
    (fun os started H enc _ F => by rw [OpenClaim.pre_of_none' rfl]; exact lifted os started H enc F)
end regexWrites
theorem regexWrites_holds : Rows.RegexWritesUptoSaid := regexWrites.over
end Go.Proofs.YtgdehkimfmfofaaGreat

