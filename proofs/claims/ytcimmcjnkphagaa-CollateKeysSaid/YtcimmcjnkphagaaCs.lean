/-
  The law CollateKeys: its walk.
-/
import Derived.Test.YtcimmcjnkphagaaCr
import Derived.Test.YtcimmcjnkphagaaCl
import Derived.Test.YtcimmcjnkphagaaCm
import Derived.Test.YtcimmcjnkphagaaCn
namespace Go.Proofs.Ytcimmcjnkphagaa
open Go.Am Go.Wb
set_option linter.unusedVariables false
set_option linter.unusedSimpArgs false
theorem fn3 : Fn1 Try.prog 3 Try.f3.ntmps 12 (Try.f3.body.getD .skip) := ⟨Try.f3, Try.func3, rfl, rfl, rfl, by kernel_rfl⟩
set_option maxRecDepth 100000 in
set_option maxHeartbeats 4000000 in
theorem keys_law {l m : List Int} {words : List (List Int)} {ati how bye : Int} (hl : l.length ≤ 9223372036854775807) (hl64 : I64s l) (hm : m.length ≤ 9223372036854775807) (hw : words.length ≤ 9223372036854775807) (hww : bigL words) (hat : I64 ati) (hhow : I64 how) (hby : I64 bye) :
    CallF Try.prog 3 [ints l, ints m, intss words, int ati, int how, int bye] (.p (bool true)) := by
  have hA := lettersP_ok l
  have hA0 := lettersP_len l
  have hall : ∀ i, okA ([lettersP l, spoiltP (lettersP l) ati how bye, smallP].getD i default) := fun i => by
    match i with
    | 0 => exact hA
    | 1 => exact spoiltP_ok hA _ _ _
    | 2 => exact small_ok
    | i + 3 => exact (show okA [] from ⟨by decide, fun x hx => by cases hx⟩)
  obtain ⟨W, hWe⟩ : ∃ W, W = wordsP (lettersP l) m 4 ++ rawP words := ⟨_, rfl⟩
  have hW : shortW W := by rw [hWe]; exact words_short _ _ _ (by decide) _
  have hW1 := hW.1
  refine callF_of_code fn3 (Nat.le_of_ble_eq_true rfl) fun w0 M0 hM0 => ?_
  refine code_seq ?_
  refine code_ops _ rfl ?_
  refine ol_pure rfl rfl rfl (pure_assign rfl rfl) ?_
  refine ol_nil ?_
  refine seq_pick 71 [(0, _), (1, _), (2, _), (3, _), (4, _), (5, _)] [] rfl ⟨rfl, rfl, rfl, rfl, rfl, rfl, trivial⟩ trivial ?_
  refine code_seq ?_
  refine code_ops _ rfl ?_
  refine ol_pure rfl rfl rfl (pure_move rfl rfl) ?_
  refine ol_pure rfl rfl rfl (pure_call rfl rfl rfl (letters_call hl hl64) hM0) ?_
  refine ol_pure rfl rfl rfl (pure_assign rfl rfl) ?_
  refine ol_nil ?_
  refine seq_pick 71 [(1, _), (2, _), (3, _), (4, _), (5, _), (13, _)] [] rfl ⟨rfl, rfl, rfl, rfl, rfl, rfl, trivial⟩ trivial ?_
  refine code_seq ?_
  refine code_ops _ rfl ?_
  refine ol_pure rfl rfl rfl (pure_move rfl rfl) ?_
  refine ol_pure rfl rfl rfl (pure_move rfl rfl) ?_
  refine ol_pure rfl rfl rfl (pure_move rfl rfl) ?_
  refine ol_pure rfl rfl rfl (pure_move rfl rfl) ?_
  refine ol_pure rfl rfl rfl (pure_move rfl rfl) ?_
  refine ol_pure rfl rfl rfl (pure_call rfl rfl rfl (spoilt_call hA.len (by omega) hat hhow hby) hM0) ?_
  refine ol_pure rfl rfl rfl (pure_call rfl rfl rfl (small_call) hM0) ?_
  refine ol_pure rfl rfl rfl (pure_lit rfl Try.underlying28 el24 rfl rfl rfl rfl hM0) ?_
  refine ol_pure rfl rfl rfl (pure_assign rfl rfl) ?_
  refine ol_nil ?_
  refine seq_pick 71 [(1, _), (2, _), (13, _), (14, _)] [] rfl ⟨rfl, rfl, rfl, rfl, trivial⟩ trivial ?_
  refine code_seq ?_
  refine code_ops _ rfl ?_
  refine ol_pure rfl rfl rfl (pure_move rfl rfl) ?_
  refine ol_pure rfl rfl rfl (pure_move rfl rfl) ?_
  refine ol_step rfl (step_call_own rfl rfl rfl rfl rfl rfl (words_call hA.len (by omega) hm (by decide)) hM0) ?_
  refine ol_pure rfl rfl rfl (pure_move rfl rfl) ?_
  refine ol_pure rfl rfl rfl (pure_call rfl rfl rfl (raw_call hw hww) hM0) ?_
  refine ol_step rfl (step_append rfl rfl rfl rfl Try.underlying23 el22 rfl rfl hM0 (src_plm rfl (fun _ => rfl)) (by have h1 := hW.1; rw [hWe, List.length_append] at h1; simp only [List.length_map]; omega) (by have h1 := hW.1; rw [hWe, List.length_append] at h1; simp only [List.length_map]; omega)) ?_
  refine ol_pure rfl rfl rfl (pure_assign rfl rfl) ?_
  refine ol_nil ?_
  refine seq_pick 71 [(14, _), (15, _)] [(30, _)] rfl ⟨rfl, rfl, trivial⟩ ⟨rfl, trivial⟩ ?_
  refine code_seq ?_
  refine code_seq ?_
  refine code_frz 71 [(14, _), (15, _)] [] hM0 rfl ⟨.inl rfl, .inr ⟨_, _, rfl, rfl, rfl⟩, trivial⟩ trivial ?_
  refine code_ops _ rfl ?_
  refine ol_pure rfl rfl rfl (pure_assign rfl rfl) ?_
  refine ol_nil ?_
  refine seq_pick 71 [(14, _), (15, _), (16, _)] [] rfl ⟨rfl, rfl, rfl, trivial⟩ trivial ?_
  refine code_block ?_
  refine code_loopM (fun zm zs => ∃ i : Nat, zm = 3 - i ∧ (i ≤ 3) ∧ zs = ⟨71, [(14, .v .pl (.sl ([lettersP l, spoiltP (lettersP l) ati how bye, smallP].map letters))), (15, .v .pl (intss W)), (16, .v .pl (int i))], []⟩) (loop_init (n := 71) (l := [(14, _), (15, _), (16, _)]) (o' := []) rfl ⟨rfl, rfl, rfl, trivial⟩ trivial ?_) ?_
  · refine ⟨_, 0, rfl, Nat.zero_le _, ?_⟩
    rw [hWe, intss, List.map_append]; rfl
  · rintro zm zs ⟨i, rfl, hL1_0, rfl⟩
    refine code_seq ?_
    refine code_seq ?_
    refine code_ops _ rfl ?_
    refine ol_pure rfl rfl rfl (pure_move rfl rfl) ?_
    refine ol_pure rfl rfl rfl (pure_lss rfl rfl rfl) ?_
    refine ol_nil ?_
    refine seq_pick 71 [(14, _), (15, _), (16, _), (35, _)] [] rfl ⟨rfl, rfl, rfl, rfl, trivial⟩ trivial ?_
    refine code_cond rfl (fun h1 => ?_) (fun h1 => ?_)
    · try simp only [decide_eq_true_eq, decide_eq_false_iff_not, Bool.not_eq_true', Bool.not_eq_false', Bool.and_eq_true, Bool.or_eq_true, Bool.and_eq_false_iff, List.length_map, Int.toNat_natCast] at h1
      refine code_skip ?_
      refine seq_pick 71 [(14, _), (15, _), (16, _)] [] rfl ⟨rfl, rfl, rfl, trivial⟩ trivial ?_
      refine code_seq ?_
      refine code_block ?_
      refine code_seq ?_
      refine code_ops _ rfl ?_
      refine ol_pure rfl rfl rfl (pure_assign rfl rfl) ?_
      refine ol_nil ?_
      refine seq_pick 71 [(14, _), (15, _), (16, _), (17, _)] [] rfl ⟨rfl, rfl, rfl, rfl, trivial⟩ trivial ?_
      refine code_block ?_
      refine code_loopM (fun zm zs => ∃ k : Nat, zm = W.length - k ∧ (k ≤ W.length) ∧ zs = ⟨71, [(14, .v .pl (.sl ([lettersP l, spoiltP (lettersP l) ati how bye, smallP].map letters))), (15, .v .pl (intss W)), (16, .v .pl (int i)), (17, .v .pl (int k))], []⟩) (loop_init (n := 71) (l := [(14, _), (15, _), (16, _), (17, _)]) (o' := []) rfl ⟨rfl, rfl, rfl, rfl, trivial⟩ trivial ?_) ?_
      · exact ⟨_, 0, rfl, Nat.zero_le _, rfl⟩
      · rintro zm zs ⟨k, rfl, hL2_0, rfl⟩
        refine code_seq ?_
        refine code_seq ?_
        refine code_ops _ rfl ?_
        refine ol_pure rfl rfl rfl (pure_move rfl rfl) ?_
        refine ol_pure rfl rfl rfl (pure_move rfl rfl) ?_
        refine ol_pure rfl rfl rfl (pure_lenm rfl Try.underlying23 rfl) ?_
        refine ol_pure rfl rfl rfl (pure_lss rfl rfl rfl) ?_
        refine ol_nil ?_
        refine seq_pick 71 [(14, _), (15, _), (16, _), (17, _), (41, _)] [] rfl ⟨rfl, rfl, rfl, rfl, rfl, trivial⟩ trivial ?_
        refine code_cond rfl (fun h2 => ?_) (fun h2 => ?_)
        · try simp only [decide_eq_true_eq, decide_eq_false_iff_not, Bool.not_eq_true', Bool.not_eq_false', Bool.and_eq_true, Bool.or_eq_true, Bool.and_eq_false_iff, List.length_map, Int.toNat_natCast] at h2
          refine code_skip ?_
          refine seq_pick 71 [(14, _), (15, _), (16, _), (17, _)] [] rfl ⟨rfl, rfl, rfl, rfl, trivial⟩ trivial ?_
          refine code_seq ?_
          refine code_block ?_
          refine code_seq ?_
          refine code_draw mixed (by kernel_rfl) _ rfl ?_
          refine dl_pure rfl rfl rfl (pure_move rfl rfl) ?_
          refine dl_pure rfl rfl rfl (pure_move rfl rfl) ?_
          first | refine dl_pure rfl rfl rfl (pure_indexn (f := letters) (l := [lettersP l, spoiltP (lettersP l) ati how bye, smallP]) rfl Try.underlying28 sz24 rfl rfl (by simp only [List.length_cons, List.length_nil]; omega) (fun _ => rfl)) ?_ | refine dl_pure rfl rfl rfl (pure_indexm (f := letters) (l := [lettersP l, spoiltP (lettersP l) ati how bye, smallP]) rfl Try.underlying28 sz24 rfl rfl (by simp only [List.length_cons, List.length_nil]; omega) (fun _ => rfl)) ?_
          refine dl_pure rfl rfl rfl (pure_load rfl ag24 rfl rfl) ?_
          refine dl_pure rfl rfl rfl (pure_move rfl rfl) ?_
          refine dl_pure rfl rfl rfl (pure_move rfl rfl) ?_
          first | refine dl_pure rfl rfl rfl (pure_indexn (f := ints) (l := W) rfl Try.underlying23 sz22 rfl rfl (by omega) (fun _ => rfl)) ?_ | refine dl_pure rfl rfl rfl (pure_indexm (f := ints) (l := W) rfl Try.underlying23 sz22 rfl rfl (by omega) (fun _ => rfl)) ?_
          refine dl_pick 71 [(14, _), (15, _), (16, _), (17, _), (47, _), (50, _)] [] rfl rfl ⟨rfl, rfl, rfl, rfl, rfl, rfl, trivial⟩ ?_
          refine dl_pure rfl rfl rfl (pure_load rfl ag22 rfl rfl) ?_
          refine dl_pure rfl rfl rfl (pure_call rfl rfl rfl (ckey_call (hall i).len (hall i).txt (hW.get k)) hM0) ?_
          refine dl_pure rfl rfl rfl (pure_move rfl rfl) ?_
          refine dl_pure rfl rfl rfl (pure_move rfl rfl) ?_
          first | refine dl_pure rfl rfl rfl (pure_indexn (f := letters) (l := [lettersP l, spoiltP (lettersP l) ati how bye, smallP]) rfl Try.underlying28 sz24 rfl rfl (by simp only [List.length_cons, List.length_nil]; omega) (fun _ => rfl)) ?_ | refine dl_pure rfl rfl rfl (pure_indexm (f := letters) (l := [lettersP l, spoiltP (lettersP l) ati how bye, smallP]) rfl Try.underlying28 sz24 rfl rfl (by simp only [List.length_cons, List.length_nil]; omega) (fun _ => rfl)) ?_
          refine dl_pure rfl rfl rfl (pure_load rfl ag24 rfl rfl) ?_
          refine dl_pure rfl rfl rfl (pure_move rfl rfl) ?_
          refine dl_pick 71 [(14, _), (15, _), (16, _), (17, _), (52, _), (56, _), (57, _)] [] rfl rfl ⟨rfl, rfl, rfl, rfl, rfl, rfl, rfl, trivial⟩ ?_
          refine dl_pure rfl rfl rfl (pure_move rfl rfl) ?_
          first | refine dl_pure rfl rfl rfl (pure_indexn (f := ints) (l := W) rfl Try.underlying23 sz22 rfl rfl (by omega) (fun _ => rfl)) ?_ | refine dl_pure rfl rfl rfl (pure_indexm (f := ints) (l := W) rfl Try.underlying23 sz22 rfl rfl (by omega) (fun _ => rfl)) ?_
          refine dl_pure rfl rfl rfl (pure_load rfl ag22 rfl rfl) ?_
          refine dl_pure rfl rfl rfl (pure_call rfl rfl rfl (rkey_call (hall i).len (hall i).txt (hW.get k)) hM0) ?_
          refine dl_pure rfl rfl rfl (pure_callb (b' := true) rfl rfl rfl (same_call (keyC_len (hW.get k))) hM0 (decide_eq_true (key_same _ _))) ?_
          refine dl_pure rfl rfl rfl (pure_not rfl rfl) ?_
          refine dl_nil ?_
          refine seq_pick 71 [(14, _), (15, _), (16, _), (17, _), (63, _)] [] rfl ⟨rfl, rfl, rfl, rfl, rfl, trivial⟩ trivial ?_
          refine code_cond_f rfl ?_
          refine code_skip ?_
          refine blockQ_normal ?_
          refine seq_pick 71 [(14, _), (15, _), (16, _), (17, _)] [] rfl ⟨rfl, rfl, rfl, rfl, trivial⟩ trivial ?_
          refine code_ops _ rfl ?_
          refine ol_pure rfl rfl rfl (pure_move rfl rfl) ?_
          refine ol_pure rfl rfl rfl (pure_addi rfl rfl rfl (by omega)) ?_
          refine ol_pure rfl rfl rfl (pure_assign rfl rfl) ?_
          refine ol_nil ?_
          refine loop_next (n := 71) (l := [(14, _), (15, _), (16, _), (17, _)]) (o' := []) rfl ⟨rfl, rfl, rfl, rfl, trivial⟩ trivial ?_   -- loop 2 end 1
          exact ⟨_, ⟨k + 1, rfl, by omega, rfl⟩, by omega⟩
        · try simp only [decide_eq_true_eq, decide_eq_false_iff_not, Bool.not_eq_true', Bool.not_eq_false', Bool.and_eq_true, Bool.or_eq_true, Bool.and_eq_false_iff, List.length_map, Int.toNat_natCast] at h2
          refine code_exit ?_
          refine seqQ_exit ?_
          refine loopM_exit ?_
          refine blockQ_same ?_
          refine blockQ_normal ?_
          refine seq_pick 71 [(14, _), (15, _), (16, _)] [] rfl ⟨rfl, rfl, rfl, trivial⟩ trivial ?_
          refine code_ops _ rfl ?_
          refine ol_pure rfl rfl rfl (pure_move rfl rfl) ?_
          refine ol_pure rfl rfl rfl (pure_addi rfl rfl rfl (by omega)) ?_
          refine ol_pure rfl rfl rfl (pure_assign rfl rfl) ?_
          refine ol_nil ?_
          refine loop_next (n := 71) (l := [(14, _), (15, _), (16, _)]) (o' := []) rfl ⟨rfl, rfl, rfl, trivial⟩ trivial ?_   -- loop 1 end 1
          exact ⟨_, ⟨i + 1, rfl, by omega, rfl⟩, by omega⟩
    · try simp only [decide_eq_true_eq, decide_eq_false_iff_not, Bool.not_eq_true', Bool.not_eq_false', Bool.and_eq_true, Bool.or_eq_true, Bool.and_eq_false_iff, List.length_map, Int.toNat_natCast] at h1
      refine code_exit ?_
      refine seqQ_exit ?_
      refine loopM_exit ?_
      refine blockQ_same ?_
      refine seq_pick 71 [] [] rfl trivial trivial ?_
      refine code_seq ?_
      refine code_ops _ rfl ?_
      refine ol_pure rfl rfl rfl (pure_lit rfl Try.underlying22 el3 rfl rfl rfl rfl hM0) ?_
      refine ol_pure rfl rfl rfl (pure_call rfl rfl rfl (ckey_call (a := []) (w := [0]) (by decide) (by decide) (by decide)) hM0) ?_
      refine ol_pure rfl rfl rfl (pure_lenm rfl Try.underlying22 rfl) ?_
      refine ol_pure rfl rfl rfl (pure_to (b' := true) (pure_eql rfl rfl rfl) (by kernel_rfl)) ?_
      refine ol_pure rfl rfl rfl (pure_move rfl rfl) ?_
      refine ol_pure_g rfl rfl rfl rfl rfl (pure_call rfl rfl rfl (lives_call) hM0) ?_
      refine ol_pure rfl rfl rfl (pure_pick_t rfl rfl rfl rfl) ?_
      refine ol_pure rfl rfl rfl (pure_assign rfl rfl) ?_
      refine ol_nil ?_
      refine seq_pick 71 [(12, _)] [] rfl ⟨rfl, trivial⟩ trivial ?_
      refine code_ret ?_
      refine end_ret rfl ?_   -- end 1
      rfl
end Go.Proofs.Ytcimmcjnkphagaa
