/-
  The law CollateSections holds: for every input it returns true, and its arguments read as before.
-/
import Derived.Test.YtcimmcjnkphagaaCr
import Derived.Test.YtcimmcjnkphagaaCl
import Derived.Test.YtcimmcjnkphagaaCm
import Derived.Test.YtcimmcjnkphagaaPp
namespace Go.Proofs.Ytcimmcjnkphagaa
open Go.Am Go.Wb
set_option linter.unusedVariables false
set_option linter.unusedSimpArgs false
theorem fn9 : Fn1 Try.prog 9 Try.f9.ntmps 8 (Try.f9.body.getD .skip) := ⟨Try.f9, Try.func9, rfl, rfl, rfl, by kernel_rfl⟩
set_option maxRecDepth 100000 in
set_option maxHeartbeats 8000000 in
theorem sections_law {l m : List Int} {words : List (List Int)} {many : Int} (hl : l.length ≤ 9223372036854775807) (hl64 : I64s l) (hm : m.length ≤ 9223372036854775807) (hw : words.length ≤ 9223372036854775807) (hww : bigL words) (hmany : I64 many) :
    CallF Try.prog 9 [ints l, ints m, intss words, int many] (.p (bool true)) := by
  have hLet := letters_call hl hl64
  have hA := lettersP_ok l
  have hA0 := lettersP_len l
  have hV := lettersP_valid l
  generalize lettersP l = A at hLet hA hA0 hV
  have hma := around_lt (n := many) (most := 20) (by decide)
  obtain ⟨W, hWe⟩ : ∃ W, W = wordsP A m (around many 20) ++ rawP words := ⟨_, rfl⟩
  have hW : shortW W := by rw [hWe]; exact words_short _ _ _ (by omega) _
  have hW1 := hW.1
  have hW2 : W.length ≤ 1099511627776 := by omega
  have hSort := csort_call hA.len hA.txt hW2 hW.short
  rw [if_pos hV] at hSort
  have hSect : ∀ w : List Int, w.length ≤ 1099511627776 → CallF Try.prog 21 [letters A, ints w] (.p (int (sectP A w))) := fun w hw => by
    have h := csection_call (w := w) hA.len hA.txt hw
    rwa [if_pos hV] at h
  have hSL := sortN_len A W W.length
  refine callF_of_code fn9 (Nat.le_of_ble_eq_true rfl) fun w0 M0 hM0 => ?_
  refine code_seq ?_
  refine code_ops _ rfl ?_
  refine ol_pure rfl rfl rfl (pure_assign rfl rfl) ?_
  refine ol_nil ?_
  refine seq_pick 86 [(0, _), (1, _), (2, _), (3, _)] [] rfl ⟨rfl, rfl, rfl, rfl, trivial⟩ trivial ?_
  refine code_seq ?_
  refine code_ops _ rfl ?_
  refine ol_pure rfl rfl rfl (pure_move rfl rfl) ?_
  refine ol_pure rfl rfl rfl (pure_call rfl rfl rfl (hLet) hM0) ?_
  refine ol_pure rfl rfl rfl (pure_assign rfl rfl) ?_
  refine ol_nil ?_
  refine seq_pick 86 [(1, _), (2, _), (3, _), (9, _)] [] rfl ⟨rfl, rfl, rfl, rfl, trivial⟩ trivial ?_
  refine code_seq ?_
  refine code_ops _ rfl ?_
  refine ol_pure rfl rfl rfl (pure_move rfl rfl) ?_
  refine ol_pure rfl rfl rfl (pure_move rfl rfl) ?_
  refine ol_pure rfl rfl rfl (pure_move rfl rfl) ?_
  refine ol_pure rfl rfl rfl (pure_call rfl rfl rfl (around_call hmany (by decide)) hM0) ?_
  refine ol_step rfl (step_call_own rfl rfl rfl rfl rfl rfl (words_call hA.len (by omega) hm (by omega)) hM0) ?_
  refine ol_pure rfl rfl rfl (pure_move rfl rfl) ?_
  refine ol_pure rfl rfl rfl (pure_call rfl rfl rfl (raw_call hw hww) hM0) ?_
  refine ol_step rfl (step_append rfl rfl rfl rfl Try.underlying23 el22 rfl rfl hM0 (src_plm rfl (fun _ => rfl)) (by have h1 := hW.1; rw [hWe, List.length_append] at h1; simp only [List.length_map]; omega) (by have h1 := hW.1; rw [hWe, List.length_append] at h1; simp only [List.length_map]; omega)) ?_
  refine ol_pure rfl rfl rfl (pure_assign rfl rfl) ?_
  refine ol_nil ?_
  refine seq_pick 86 [(9, _), (10, _)] [(21, _)] rfl ⟨rfl, rfl, trivial⟩ ⟨rfl, trivial⟩ ?_
  refine code_seq ?_
  refine code_frz 86 [(9, _), (10, _)] [] hM0 rfl ⟨.inl rfl, .inr ⟨_, _, rfl, rfl, rfl⟩, trivial⟩ trivial ?_
  rw [← List.map_append, ← hWe]
  refine code_ops _ rfl ?_
  refine ol_pure rfl rfl rfl (pure_move rfl rfl) ?_
  refine ol_pure rfl rfl rfl (pure_move rfl rfl) ?_
  refine ol_pure rfl rfl rfl (pure_call rfl rfl rfl (hSort) hM0) ?_
  refine ol_pure rfl rfl rfl (pure_assign rfl rfl) ?_
  refine ol_nil ?_
  refine seq_pick 86 [(9, _), (10, _), (11, _)] [] rfl ⟨rfl, rfl, rfl, trivial⟩ trivial ?_
  refine code_seq ?_
  refine code_seq ?_
  refine code_ops _ rfl ?_
  refine ol_pure rfl rfl rfl (pure_move rfl rfl) ?_
  refine ol_pure rfl rfl rfl (pure_lenm rfl Try.underlying22 rfl) ?_
  refine ol_pure rfl rfl rfl (pure_move rfl rfl) ?_
  refine ol_pure rfl rfl rfl (pure_lenm rfl Try.underlying23 rfl) ?_
  refine ol_pure rfl rfl rfl (pure_to (b' := false) (pure_neq rfl rfl rfl) (by rw [sortN_len]; simp)) ?_
  refine ol_nil ?_
  refine seq_pick 86 [(9, _), (10, _), (11, _), (32, _)] [] rfl ⟨rfl, rfl, rfl, rfl, trivial⟩ trivial ?_
  refine code_cond_f rfl ?_
  refine code_skip ?_
  refine seq_pick 86 [(9, _), (10, _), (11, _)] [] rfl ⟨rfl, rfl, rfl, trivial⟩ trivial ?_
  refine code_seq ?_
  refine code_ops _ rfl ?_
  refine ol_pure rfl rfl rfl (pure_assign rfl rfl) ?_
  refine ol_nil ?_
  refine seq_pick 86 [(9, _), (10, _), (11, _), (12, _)] [] rfl ⟨rfl, rfl, rfl, rfl, trivial⟩ trivial ?_
  refine code_seq ?_
  refine code_seq ?_
  refine code_ops _ rfl ?_
  refine ol_pure rfl rfl rfl (pure_assign rfl rfl) ?_
  refine ol_nil ?_
  refine seq_pick 86 [(9, _), (10, _), (11, _), (12, _), (13, _)] [] rfl ⟨rfl, rfl, rfl, rfl, rfl, trivial⟩ trivial ?_
  refine code_block ?_
  refine code_loopM (fun zm zs => ∃ i : Nat, zm = W.length - i ∧ (i ≤ W.length) ∧ zs = ⟨86, [(9, .v .pl (letters A)), (10, .v .pl (intss W)), (11, .v .pl (ints (sortN A W W.length))), (12, .v .pl (int (lastS A W i))), (13, .v .pl (int i))], []⟩) (loop_init (n := 86) (l := [(9, _), (10, _), (11, _), (12, _), (13, _)]) (o' := []) rfl ⟨rfl, rfl, rfl, rfl, rfl, trivial⟩ trivial ?_) ?_
  · exact ⟨_, 0, rfl, Nat.zero_le _, rfl⟩
  · rintro zm zs ⟨i, rfl, hL1_0, rfl⟩
    refine code_seq ?_
    refine code_seq ?_
    refine code_ops _ rfl ?_
    refine ol_pure rfl rfl rfl (pure_move rfl rfl) ?_
    refine ol_pure rfl rfl rfl (pure_move rfl rfl) ?_
    refine ol_pure rfl rfl rfl (pure_lenm rfl Try.underlying22 rfl) ?_
    refine ol_pure rfl rfl rfl (pure_lss rfl rfl rfl) ?_
    refine ol_nil ?_
    refine seq_pick 86 [(9, _), (10, _), (11, _), (12, _), (13, _), (36, _)] [] rfl ⟨rfl, rfl, rfl, rfl, rfl, rfl, trivial⟩ trivial ?_
    refine code_cond rfl (fun h1 => ?_) (fun h1 => ?_)
    · try simp only [decide_eq_true_eq, decide_eq_false_iff_not, Bool.not_eq_true', Bool.not_eq_false', Bool.and_eq_true, Bool.or_eq_true, Bool.and_eq_false_iff, List.length_map, Int.toNat_natCast] at h1
      have hb := sortN_bd A W (i := W.length) (k := i) (by omega)
      have hls := lastS_le hV W (i := i) (by omega)
      have hsb := sect_bd hV (W.getD ((sortN A W W.length).getD i default).toNat default)
      have hsb2 : 0 ≤ sectP A (W.getD ((sortN A W W.length).getD i default).toNat default) → (A.getD (sectP A (W.getD ((sortN A W W.length).getD i default).toNat default)).toNat default).base = sectP A (W.getD ((sortN A W W.length).getD i default).toNat default) := fun h => hsb.elim (fun h0 => by omega) fun h0 => h0.2.2
      replace hsb := hsb.imp_right fun h0 => And.intro h0.1 h0.2.1
      refine code_skip ?_
      refine seq_pick 86 [(9, _), (10, _), (11, _), (12, _), (13, _)] [] rfl ⟨rfl, rfl, rfl, rfl, rfl, trivial⟩ trivial ?_
      refine code_seq ?_
      refine code_block ?_
      refine code_seq ?_
      refine code_seq ?_
      refine code_ops _ rfl ?_
      refine ol_pure rfl rfl rfl (pure_move rfl rfl) ?_
      refine ol_pure rfl rfl rfl (pure_move rfl rfl) ?_
      first | refine ol_pure rfl rfl rfl (pure_indexn (f := int) (l := (sortN A W W.length)) rfl Try.underlying22 sz3 rfl rfl (by omega) (fun _ => rfl)) ?_ | refine ol_pure rfl rfl rfl (pure_indexm (f := int) (l := (sortN A W W.length)) rfl Try.underlying22 sz3 rfl rfl (by omega) (fun _ => rfl)) ?_
      refine ol_pure rfl rfl rfl (pure_load rfl ag3 rfl rfl) ?_
      refine ol_pure rfl rfl rfl (pure_to (b' := false) (pure_lss rfl rfl rfl) (decide_eq_false (by omega))) ?_
      refine ol_pure rfl rfl rfl (pure_move rfl rfl) ?_
      refine ol_pure_g rfl rfl rfl rfl rfl (pure_move rfl rfl) ?_
      refine ol_pick 86 [(9, _), (10, _), (11, _), (12, _), (13, _), (44, _), (45, _)] [] rfl ⟨rfl, rfl, rfl, rfl, rfl, rfl, rfl, trivial⟩ trivial ?_
      refine ol_pure_g rfl rfl rfl rfl rfl (pure_move rfl rfl) ?_
      first | refine ol_pure_g rfl rfl rfl rfl rfl (pure_indexn (f := int) (l := (sortN A W W.length)) rfl Try.underlying22 sz3 rfl rfl (by omega) (fun _ => rfl)) ?_ | refine ol_pure_g rfl rfl rfl rfl rfl (pure_indexm (f := int) (l := (sortN A W W.length)) rfl Try.underlying22 sz3 rfl rfl (by omega) (fun _ => rfl)) ?_
      refine ol_pure_g rfl rfl rfl rfl rfl (pure_load rfl ag3 rfl rfl) ?_
      refine ol_pure_g rfl rfl rfl rfl rfl (pure_move rfl rfl) ?_
      refine ol_pure_g rfl rfl rfl rfl rfl (pure_lenm rfl Try.underlying23 rfl) ?_
      refine ol_pure_g rfl rfl rfl rfl rfl (pure_to (b' := false) (pure_geq rfl rfl rfl) (decide_eq_false (by omega))) ?_
      refine ol_pure rfl rfl rfl (pure_pick_f rfl rfl rfl rfl) ?_
      refine ol_nil ?_
      refine seq_pick 86 [(9, _), (10, _), (11, _), (12, _), (13, _), (52, _)] [] rfl ⟨rfl, rfl, rfl, rfl, rfl, rfl, trivial⟩ trivial ?_
      refine code_cond_f rfl ?_
      refine code_skip ?_
      refine seq_pick 86 [(9, _), (10, _), (11, _), (12, _), (13, _)] [] rfl ⟨rfl, rfl, rfl, rfl, rfl, trivial⟩ trivial ?_
      refine code_seq ?_
      refine code_ops _ rfl ?_
      refine ol_pure rfl rfl rfl (pure_move rfl rfl) ?_
      refine ol_pure rfl rfl rfl (pure_move rfl rfl) ?_
      refine ol_pure rfl rfl rfl (pure_move rfl rfl) ?_
      refine ol_pure rfl rfl rfl (pure_move rfl rfl) ?_
      first | refine ol_pure rfl rfl rfl (pure_indexn (f := int) (l := (sortN A W W.length)) rfl Try.underlying22 sz3 rfl rfl (by omega) (fun _ => rfl)) ?_ | refine ol_pure rfl rfl rfl (pure_indexm (f := int) (l := (sortN A W W.length)) rfl Try.underlying22 sz3 rfl rfl (by omega) (fun _ => rfl)) ?_
      refine ol_pure rfl rfl rfl (pure_load rfl ag3 rfl rfl) ?_
      first | refine ol_pure rfl rfl rfl (pure_indexn (f := ints) (l := W) rfl Try.underlying23 sz22 rfl rfl (by omega) (fun _ => rfl)) ?_ | refine ol_pure rfl rfl rfl (pure_indexm (f := ints) (l := W) rfl Try.underlying23 sz22 rfl rfl (by omega) (fun _ => rfl)) ?_
      refine ol_pure rfl rfl rfl (pure_load rfl ag22 rfl rfl) ?_
      refine ol_pure rfl rfl rfl (pure_call rfl rfl rfl (hSect _ (hW.get _)) hM0) ?_
      refine ol_pure rfl rfl rfl (pure_assign rfl rfl) ?_
      refine ol_nil ?_
      refine seq_pick 86 [(9, _), (10, _), (11, _), (12, _), (13, _), (14, _)] [] rfl ⟨rfl, rfl, rfl, rfl, rfl, rfl, trivial⟩ trivial ?_
      refine code_seq ?_
      refine code_seq ?_
      refine code_ops _ rfl ?_
      refine ol_pure rfl rfl rfl (pure_move rfl rfl) ?_
      refine ol_pure rfl rfl rfl (pure_move rfl rfl) ?_
      refine ol_pure rfl rfl rfl (pure_to (b' := false) (pure_lss rfl rfl rfl) (decide_eq_false (by omega))) ?_
      refine ol_pure rfl rfl rfl (pure_move rfl rfl) ?_
      refine ol_pure_g rfl rfl rfl rfl rfl (pure_move rfl rfl) ?_
      refine ol_pure_g rfl rfl rfl rfl rfl (pure_move rfl rfl) ?_
      refine ol_pure_g rfl rfl rfl rfl rfl (pure_lenm rfl Try.underlying24 rfl) ?_
      refine ol_pick 86 [(9, _), (10, _), (11, _), (13, _), (14, _), (65, _), (66, _), (68, _)] [] rfl ⟨rfl, rfl, rfl, rfl, rfl, rfl, rfl, rfl, trivial⟩ trivial ?_
      refine ol_pure_g rfl rfl rfl rfl rfl (pure_to (b' := false) (pure_geq rfl rfl rfl) (decide_eq_false (by omega))) ?_
      refine ol_pure rfl rfl rfl (pure_pick_f rfl rfl rfl rfl) ?_
      refine ol_pure rfl rfl rfl (pure_move rfl rfl) ?_
      refine ol_pure_g rfl rfl rfl rfl rfl (pure_move rfl rfl) ?_
      refine ol_pure_g rfl rfl rfl rfl rfl (pure_geq rfl rfl rfl) ?_
      refine ol_pure_g rfl rfl rfl rfl rfl (pure_move rfl rfl) ?_
      refine ol_guard rfl (fun h2 => ?_) (fun h2 => ?_)
      · have h2' := h2; try simp only [decide_eq_true_eq, decide_eq_false_iff_not, Bool.not_eq_true', Bool.not_eq_false', Bool.and_eq_true, Bool.or_eq_true, Bool.and_eq_false_iff, List.length_map, Int.toNat_natCast] at h2'
        refine ol_pure_g rfl rfl h2 rfl rfl (pure_move rfl rfl) ?_
        refine ol_pick 86 [(9, _), (10, _), (11, _), (13, _), (14, _), (71, _), (74, _), (75, _)] [] rfl ⟨rfl, rfl, rfl, rfl, rfl, rfl, rfl, rfl, trivial⟩ trivial ?_
        refine ol_pure_g rfl rfl h2 rfl rfl (pure_move rfl rfl) ?_
        first | refine ol_pure_g rfl rfl h2 rfl rfl (pure_indexn (f := letter) (l := A) rfl Try.underlying24 sz48 rfl rfl (by omega) (fun _ => rfl)) ?_ | refine ol_pure_g rfl rfl h2 rfl rfl (pure_indexm (f := letter) (l := A) rfl Try.underlying24 sz48 rfl rfl (by omega) (fun _ => rfl)) ?_
        refine ol_pure_g rfl rfl h2 rfl rfl (pure_field rfl fd48_1 rfl) ?_
        refine ol_pure_g rfl rfl h2 rfl rfl (pure_load rfl ag3 rfl rfl) ?_
        refine ol_pure_g rfl rfl h2 rfl rfl (pure_move rfl rfl) ?_
        refine ol_pure_g rfl rfl h2 rfl rfl (pure_to (b' := false) (pure_neq rfl rfl rfl) (by rw [hsb2 (by omega)]; simp)) ?_
        refine ol_pure_g rfl rfl rfl rfl rfl (pure_pick_t rfl rfl h2 rfl) ?_
        refine ol_pure rfl rfl rfl (pure_pick_f rfl rfl rfl rfl) ?_
        refine ol_nil ?_
        refine seq_pick 86 [(9, _), (10, _), (11, _), (13, _), (14, _), (83, _)] [] rfl ⟨rfl, rfl, rfl, rfl, rfl, rfl, trivial⟩ trivial ?_
        refine code_cond_f rfl ?_
        refine code_skip ?_
        refine seq_pick 86 [(9, _), (10, _), (11, _), (13, _), (14, _)] [] rfl ⟨rfl, rfl, rfl, rfl, rfl, trivial⟩ trivial ?_
        refine code_ops _ rfl ?_
        refine ol_pure rfl rfl rfl (pure_move rfl rfl) ?_
        refine ol_pure rfl rfl rfl (pure_assign rfl rfl) ?_
        refine ol_nil ?_
        refine blockQ_normal ?_
        refine seq_pick 86 [(9, _), (10, _), (11, _), (12, _), (13, _)] [] rfl ⟨rfl, rfl, rfl, rfl, rfl, trivial⟩ trivial ?_
        refine code_ops _ rfl ?_
        refine ol_pure rfl rfl rfl (pure_move rfl rfl) ?_
        refine ol_pure rfl rfl rfl (pure_addi rfl rfl rfl (by omega)) ?_
        refine ol_pure rfl rfl rfl (pure_assign rfl rfl) ?_
        refine ol_nil ?_
        refine loop_next (n := 86) (l := [(9, _), (10, _), (11, _), (12, _), (13, _)]) (o' := []) rfl ⟨rfl, rfl, rfl, rfl, rfl, trivial⟩ trivial ?_   -- loop 1 end 1
        exact ⟨_, ⟨i + 1, rfl, by omega, by rw [lastS, if_neg (by omega), Nat.add_sub_cancel]; rfl⟩, by omega⟩
      · have h2' := h2; try simp only [decide_eq_true_eq, decide_eq_false_iff_not, Bool.not_eq_true', Bool.not_eq_false', Bool.and_eq_true, Bool.or_eq_true, Bool.and_eq_false_iff, List.length_map, Int.toNat_natCast] at h2'
        refine ol_skip_g rfl rfl h2 rfl rfl ?_
        refine ol_pick 86 [(9, _), (10, _), (11, _), (13, _), (14, _), (71, _), (74, _), (75, _)] [] rfl ⟨rfl, rfl, rfl, rfl, rfl, rfl, rfl, rfl, trivial⟩ trivial ?_
        refine ol_skip_g rfl rfl h2 rfl rfl ?_
        refine ol_skip_g rfl rfl h2 rfl rfl ?_
        refine ol_skip_g rfl rfl h2 rfl rfl ?_
        refine ol_skip_g rfl rfl h2 rfl rfl ?_
        refine ol_skip_g rfl rfl h2 rfl rfl ?_
        refine ol_skip_g rfl rfl h2 rfl rfl ?_
        refine ol_pure_g rfl rfl rfl rfl rfl (pure_pick_f rfl rfl h2 rfl) ?_
        refine ol_pure rfl rfl rfl (pure_pick_f rfl rfl rfl rfl) ?_
        refine ol_nil ?_
        refine seq_pick 86 [(9, _), (10, _), (11, _), (13, _), (14, _), (83, _)] [] rfl ⟨rfl, rfl, rfl, rfl, rfl, rfl, trivial⟩ trivial ?_
        refine code_cond_f rfl ?_
        refine code_skip ?_
        refine seq_pick 86 [(9, _), (10, _), (11, _), (13, _), (14, _)] [] rfl ⟨rfl, rfl, rfl, rfl, rfl, trivial⟩ trivial ?_
        refine code_ops _ rfl ?_
        refine ol_pure rfl rfl rfl (pure_move rfl rfl) ?_
        refine ol_pure rfl rfl rfl (pure_assign rfl rfl) ?_
        refine ol_nil ?_
        refine blockQ_normal ?_
        refine seq_pick 86 [(9, _), (10, _), (11, _), (12, _), (13, _)] [] rfl ⟨rfl, rfl, rfl, rfl, rfl, trivial⟩ trivial ?_
        refine code_ops _ rfl ?_
        refine ol_pure rfl rfl rfl (pure_move rfl rfl) ?_
        refine ol_pure rfl rfl rfl (pure_addi rfl rfl rfl (by omega)) ?_
        refine ol_pure rfl rfl rfl (pure_assign rfl rfl) ?_
        refine ol_nil ?_
        refine loop_next (n := 86) (l := [(9, _), (10, _), (11, _), (12, _), (13, _)]) (o' := []) rfl ⟨rfl, rfl, rfl, rfl, rfl, trivial⟩ trivial ?_   -- loop 1 end 2
        exact ⟨_, ⟨i + 1, rfl, by omega, by rw [lastS, if_neg (by omega), Nat.add_sub_cancel]; rfl⟩, by omega⟩
    · try simp only [decide_eq_true_eq, decide_eq_false_iff_not, Bool.not_eq_true', Bool.not_eq_false', Bool.and_eq_true, Bool.or_eq_true, Bool.and_eq_false_iff, List.length_map, Int.toNat_natCast] at h1
      refine code_exit ?_
      refine seqQ_exit ?_
      refine loopM_exit ?_
      refine blockQ_same ?_
      refine seq_pick 86 [] [] rfl trivial trivial ?_
      refine code_seq ?_
      refine code_ops _ rfl ?_
      refine ol_pure rfl rfl rfl (pure_call rfl rfl rfl (lives_call) hM0) ?_
      refine ol_pure rfl rfl rfl (pure_assign rfl rfl) ?_
      refine ol_nil ?_
      refine seq_pick 86 [(8, _)] [] rfl ⟨rfl, trivial⟩ trivial ?_
      refine code_ret ?_
      refine end_ret rfl ?_   -- end 1
      rfl
/-! The statement CollateSectionsSaid. -/
namespace collateSections
open Go.ChangeShapes Go.WideShapes Go.ChangeAt Go.RowKit Go.Am
theorem own : ownKnob Try.prog.godebug = none := by kernel_rfl
set_option maxRecDepth 100000 in
theorem lifted (os : Os) (started : os.Started) (H : Type) (enc : TypeId × Value → H) :
    ReturnsInHanded {} Try.checked os 9 .any (Rows.collateSectionsSpec.pre6 enc Try.prog Try.f9 Rows.collateSectionsRow.domain false) (Rows.collateSectionsSpec.post enc Try.prog Try.f9 false true false false) := by
  refine returnsInHanded_of_change (C := Try.checked) own started (by kernel_rfl) Try.func9
    (ChangeSpec.witness6 (enc := enc) (C := Try.checked) false ⟨#[], #[.slice none 0 0, .slice none 0 0, .slice none 0 0, .int .i64 0], []⟩ 8 (by kernel_rfl) (by kernel_rfl) (by kernel_rfl) (by kernel_rfl)) ?_
  intro W base args ds gs before hval0 hW hcnd _
  have hval : ∀ (j : Nat) t v, Try.f9.params[j]? = some t → args[j]? = some v → Value.okWide Try.prog W .any base t v := hval0
  have hW' := hW
  obtain ⟨p, q, hA0, hV, rfl, hfz, hnd⟩ := hW
  have hA : DataW.TrodAll enc Try.prog W 0 (fun _ => true) true Try.f9.params.toList args.toList ds p := hA0
  rw [Try.params9] at hA hval
  obtain ⟨v0, vs0, d0, ds0, p0, q0, hargs, rfl, rfl, h0, r0⟩ := trodAll_cons hA
  obtain ⟨v1, vs1, d1, ds1, p1, q1, rfl, rfl, rfl, h1, r1⟩ := trodAll_cons r0
  obtain ⟨v2, vs2, d2, ds2, p2, q2, rfl, rfl, rfl, h2, r2⟩ := trodAll_cons r1
  obtain ⟨v3, vs3, d3, ds3, p3, q3, rfl, rfl, rfl, h3, r3⟩ := trodAll_cons r2
  obtain ⟨rfl, rfl, rfl⟩ := trodAll_nil r3
  obtain rfl : args = #[v0, v1, v2, v3] := by cases args; simp_all
  obtain ⟨x0, y0, z0, e0⟩ := open_intsA Try.underlying22 Try.underlying3 sz3 (hval 0 22 v0 rfl rfl) h0
  obtain ⟨x1, y1, z1, e1⟩ := open_intsA Try.underlying22 Try.underlying3 sz3 (hval 1 22 v1 rfl rfl) h1
  obtain ⟨x2, y2, z2, e2⟩ := open_intssA Try.underlying23 Try.underlying22 Try.underlying3 sz22 sz3 (hval 2 23 v2 rfl rfl) h2
  obtain ⟨x3, y3, e3⟩ := open_intA Try.underlying3 (hval 3 3 v3 rfl rfl) h3
  have hcall := (sections_law z0 y0 z1 z2 (fun y hy => (y2 y hy).2) y3).use (w := W) (vs := [v0, v1, v2, v3]) ⟨e0, e1, e2, e3, trivial⟩
  exact law_post (tb := 4) (by kernel_rfl) (by kernel_rfl) (by kernel_rfl) Try.underlying4 rfl rfl hW' hcall
theorem over : Rows.collateSectionsRow.holds Try.pinned (OpenSpec.ofChange Rows.collateSectionsSpec) :=
  OpenClaim.holds_of_wide 9 Try.f9 rfl rfl rfl rfl rfl rfl rfl ⟨rfl, rfl, rfl, rfl, rfl⟩ rfl rfl rfl rfl rfl (by kernel_rfl) Try.func9 (by kernel_rfl)
    (of_decide_eq_true (by kernel_rfl)) (by unfold Func.isWrapper; first | (rw [if_pos (by decide +kernel)]; kernel_rfl) | (rw [if_neg (by decide +kernel)]; exact ⟨rfl, rfl⟩))
    (fun os started H enc _ => lifted os started H enc)
end collateSections
theorem collateSections_holds : Rows.CollateSectionsSaid := collateSections.over
end Go.Proofs.Ytcimmcjnkphagaa
