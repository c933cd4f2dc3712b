/-
  The law CollateRanges holds: for every input it returns true, and its arguments read as before.
-/
import Derived.Test.YtcimmcjnkphagaaCr
import Derived.Test.YtcimmcjnkphagaaCl
import Derived.Test.YtcimmcjnkphagaaCm
import Derived.Test.YtcimmcjnkphagaaPp
namespace Go.Proofs.Ytcimmcjnkphagaa
open Go.Am Go.Wb
set_option linter.unusedVariables false
set_option linter.unusedSimpArgs false
theorem fn8 : Fn1 Try.prog 8 Try.f8.ntmps 8 (Try.f8.body.getD .skip) := ⟨Try.f8, Try.func8, rfl, rfl, rfl, by kernel_rfl⟩
set_option maxRecDepth 100000 in
set_option maxHeartbeats 8000000 in
theorem ranges_law {l m : List Int} {many ati : Int} (hl : l.length ≤ 9223372036854775807) (hl64 : I64s l) (hm : m.length ≤ 9223372036854775807) (hmany : I64 many) (hat : I64 ati) :
    CallF Try.prog 8 [ints l, ints m, int many, int ati] (.p (bool true)) := by
  have hLet := letters_call hl hl64
  have hA := lettersP_ok l
  have hA0 := lettersP_len l
  have hV := lettersP_valid l
  generalize lettersP l = A at hLet hA hA0 hV
  have hma := around_lt (n := many) (most := 20) (by decide)
  obtain ⟨W, hWe⟩ : ∃ W, W = wordsP A m (1 + around many 20) := ⟨_, rfl⟩
  have hWords := words_call (a := A) (l := m) (many := 1 + around many 20) hA.len (by omega) hm (by omega)
  rw [← hWe] at hWords
  have hW : shortW W := by
    have h := words_short A m (1 + around many 20) (by omega) []
    rw [show rawP [] = [] from rfl, List.append_nil, ← hWe] at h; exact h
  have hW0 : 0 < W.length := by rw [hWe, wordsP, wordsN_len]; omega
  have hW1 := hW.1
  have hW2 : W.length ≤ 1099511627776 := by omega
  have hSort := csort_call hA.len hA.txt hW2 hW.short
  rw [if_pos hV] at hSort
  have hSL := sortN_len A W W.length
  obtain ⟨S, hSe⟩ : ∃ S, S = sortN A W W.length := ⟨_, rfl⟩
  rw [← hSe] at hSort hSL
  have hma2 := around_lt (n := ati) (most := W.length) (by omega)
  obtain ⟨x, hxe⟩ : ∃ x, x = W.getD (around ati W.length).toNat default := ⟨_, rfl⟩
  have hx : x.length ≤ 1099511627776 := by rw [hxe]; exact hW.get _
  have hVl := vsorted_len A W (Nat.le_refl W.length)
  have hVs := vsorted_short (a := A) hW
  have hFind : ∀ n : Nat, 1 ≤ n ∧ n ≤ 4 → CallF Try.prog 30 [letters A, intss (vsorted A W W.length), ints x, int n] (.p (.tup [int (lessK A x n (vsorted A W W.length)), int (lessK A x n (vsorted A W W.length) + sameK A x n (vsorted A W W.length) : Nat)])) := fun n hn => by
    have h := cfind_call (k := n) hA.len hA.txt (by omega) hVs.short hx
    rw [if_pos ⟨hV, by omega, by omega⟩, if_pos ⟨hV, by omega, by omega⟩, Int.toNat_natCast] at h
    exact h
  have hSame : ∀ (n : Nat) (v : List Int), 1 ≤ n ∧ n ≤ 4 → v.length ≤ 1099511627776 → CallF Try.prog 25 [letters A, ints v, ints x, int n] (.p (bool (decide (cmpK A n v x = 0)))) := fun n v hn hv => by
    have h := csame_call (k := n) hA.len hA.txt hv hx
    rw [hV, decide_eq_true (show (1 : Int) ≤ n by omega), decide_eq_true (show (n : Int) ≤ 4 by omega), Int.toNat_natCast, Bool.true_and, Bool.true_and, Bool.true_and] at h
    rw [show decide (cmpK A n v x = 0) = decide (keyP A v n = keyP A x n) from decide_eq_decide.2 order_eq0]
    exact h
  refine callF_of_code fn8 (Nat.le_of_ble_eq_true rfl) fun w0 M0 hM0 => ?_
  refine code_seq ?_
  refine code_ops _ rfl ?_
  refine ol_pure rfl rfl rfl (pure_assign rfl rfl) ?_
  refine ol_nil ?_
  refine seq_pick 168 [(0, _), (1, _), (2, _), (3, _)] [] rfl ⟨rfl, rfl, rfl, rfl, trivial⟩ trivial ?_
  refine code_seq ?_
  refine code_ops _ rfl ?_
  refine ol_pure rfl rfl rfl (pure_move rfl rfl) ?_
  refine ol_pure rfl rfl rfl (pure_call rfl rfl rfl (hLet) hM0) ?_
  refine ol_pure rfl rfl rfl (pure_assign rfl rfl) ?_
  refine ol_nil ?_
  refine seq_pick 168 [(1, _), (2, _), (3, _), (9, _)] [] rfl ⟨rfl, rfl, rfl, rfl, trivial⟩ trivial ?_
  refine code_seq ?_
  refine code_ops _ rfl ?_
  refine ol_pure rfl rfl rfl (pure_move rfl rfl) ?_
  refine ol_pure rfl rfl rfl (pure_move rfl rfl) ?_
  refine ol_pure rfl rfl rfl (pure_move rfl rfl) ?_
  refine ol_pure rfl rfl rfl (pure_call rfl rfl rfl (around_call hmany (by decide)) hM0) ?_
  refine ol_pure rfl rfl rfl (pure_addi rfl rfl rfl (by omega)) ?_
  refine ol_pure rfl rfl rfl (pure_call rfl rfl rfl (hWords) hM0) ?_
  refine ol_pure rfl rfl rfl (pure_assign rfl rfl) ?_
  refine ol_nil ?_
  refine seq_pick 168 [(3, _), (9, _), (10, _)] [] rfl ⟨rfl, rfl, rfl, trivial⟩ trivial ?_
  refine code_seq ?_
  refine code_ops _ rfl ?_
  refine ol_pure rfl rfl rfl (pure_move rfl rfl) ?_
  refine ol_pure rfl rfl rfl (pure_move rfl rfl) ?_
  refine ol_pure rfl rfl rfl (pure_call rfl rfl rfl (hSort) hM0) ?_
  refine ol_pure rfl rfl rfl (pure_assign rfl rfl) ?_
  refine ol_nil ?_
  refine seq_pick 168 [(3, _), (9, _), (10, _), (11, _)] [] rfl ⟨rfl, rfl, rfl, rfl, trivial⟩ trivial ?_
  refine code_seq ?_
  refine code_seq ?_
  refine code_ops _ rfl ?_
  refine ol_pure rfl rfl rfl (pure_move rfl rfl) ?_
  refine ol_pure rfl rfl rfl (pure_lenm rfl Try.underlying22 rfl) ?_
  refine ol_pure rfl rfl rfl (pure_move rfl rfl) ?_
  refine ol_pure rfl rfl rfl (pure_lenm rfl Try.underlying23 rfl) ?_
  refine ol_pure rfl rfl rfl (pure_to (b' := false) (pure_neq rfl rfl rfl) (by rw [hSL]; simp)) ?_
  refine ol_nil ?_
  refine seq_pick 168 [(3, _), (9, _), (10, _), (11, _), (37, _)] [] rfl ⟨rfl, rfl, rfl, rfl, rfl, trivial⟩ trivial ?_
  refine code_cond_f rfl ?_
  refine code_skip ?_
  refine seq_pick 168 [(3, _), (9, _), (10, _), (11, _)] [] rfl ⟨rfl, rfl, rfl, rfl, trivial⟩ trivial ?_
  refine code_seq ?_
  refine code_ops _ rfl ?_
  refine ol_pure rfl rfl rfl (pure_move rfl rfl) ?_
  refine ol_pure rfl rfl rfl (pure_lenm rfl Try.underlying23 rfl) ?_
  refine ol_step rfl (step_make rfl rfl rfl rfl Try.underlying45 el4 ze4 rfl rfl rfl (by first | omega | (simp only [List.length_map]; omega)) (by first | omega | (simp only [List.length_map]; omega)) (by first | omega | (simp only [List.length_map]; omega)) hM0) ?_
  refine ol_pure rfl rfl rfl (pure_assign rfl rfl) ?_
  refine ol_nil ?_
  refine seq_pick 168 [(3, _), (9, _), (10, _), (11, _), (12, _)] [(40, _)] rfl ⟨rfl, rfl, rfl, rfl, rfl, trivial⟩ ⟨rfl, trivial⟩ ?_
  refine code_seq ?_
  refine code_ops _ rfl ?_
  refine ol_step rfl (step_nil rfl rfl rfl rfl rfl 22 hM0) ?_
  refine ol_nil ?_
  refine seq_pick 168 [(3, _), (9, _), (10, _), (11, _), (12, _), (13, _)] [(13, _), (40, _)] rfl ⟨rfl, rfl, rfl, rfl, rfl, rfl, trivial⟩ ⟨rfl, rfl, trivial⟩ ?_
  refine code_seq ?_
  refine code_seq ?_
  refine code_ops _ rfl ?_
  refine ol_pure rfl rfl rfl (pure_assign rfl rfl) ?_
  refine ol_nil ?_
  refine seq_pick 168 [(3, _), (9, _), (10, _), (11, _), (12, _), (13, _), (14, _)] [(13, _), (40, _)] rfl ⟨rfl, rfl, rfl, rfl, rfl, rfl, rfl, trivial⟩ ⟨rfl, rfl, trivial⟩ ?_
  refine code_block ?_
  refine code_loopM (fun zm zs => ∃ i : Nat, zm = W.length - i ∧ (i ≤ W.length) ∧ zs = ⟨168, [(3, .v .mx (int ati)), (9, .v .pl (letters A)), (10, .v .pl (intss W)), (11, .v .pl (ints S)), (12, .own 40), (13, .own 13), (14, .v .pl (int i))], [(13, .arr 22 ((vsorted A W i).map ints)), (40, .arr 4 ((seenL S W.length i).map bool))]⟩) (loop_init (n := 168) (l := [(3, _), (9, _), (10, _), (11, _), (12, _), (13, _), (14, _)]) (o' := [(13, _), (40, _)]) rfl ⟨rfl, rfl, rfl, rfl, rfl, rfl, rfl, trivial⟩ ⟨rfl, rfl, trivial⟩ ?_) ?_
  · refine ⟨_, 0, rfl, Nat.zero_le _, ?_⟩
    rw [← seen_new, List.map_replicate]; rfl
  · rintro zm zs ⟨i, rfl, hL1_0, rfl⟩
    refine code_seq ?_
    refine code_seq ?_
    refine code_ops _ rfl ?_
    refine ol_pure rfl rfl rfl (pure_move rfl rfl) ?_
    refine ol_pure rfl rfl rfl (pure_move rfl rfl) ?_
    refine ol_pure rfl rfl rfl (pure_lenm rfl Try.underlying22 rfl) ?_
    refine ol_pure rfl rfl rfl (pure_lss rfl rfl rfl) ?_
    refine ol_nil ?_
    refine seq_pick 168 [(3, _), (9, _), (10, _), (11, _), (12, _), (13, _), (14, _), (44, _)] [(13, _), (40, _)] rfl ⟨rfl, rfl, rfl, rfl, rfl, rfl, rfl, rfl, trivial⟩ ⟨rfl, rfl, trivial⟩ ?_
    refine code_cond rfl (fun h1 => ?_) (fun h1 => ?_)
    · try simp only [decide_eq_true_eq, decide_eq_false_iff_not, Bool.not_eq_true', Bool.not_eq_false', Bool.and_eq_true, Bool.or_eq_true, Bool.and_eq_false_iff, List.length_map, Int.toNat_natCast] at h1
      have hb := sortN_bd A W (i := W.length) (k := i) (by omega)
      rw [← hSe] at hb
      have hnot := seen_not (a := A) (l := W) (i := i) (by omega)
      rw [← hSe] at hnot
      refine code_skip ?_
      refine seq_pick 168 [(3, _), (9, _), (10, _), (11, _), (12, _), (13, _), (14, _)] [(13, _), (40, _)] rfl ⟨rfl, rfl, rfl, rfl, rfl, rfl, rfl, trivial⟩ ⟨rfl, rfl, trivial⟩ ?_
      refine code_seq ?_
      refine code_block ?_
      refine code_seq ?_
      refine code_seq ?_
      refine code_ops _ rfl ?_
      refine ol_pure rfl rfl rfl (pure_move rfl rfl) ?_
      refine ol_pure rfl rfl rfl (pure_move rfl rfl) ?_
      first | refine ol_pure rfl rfl rfl (pure_indexn (f := int) (l := S) rfl Try.underlying22 sz3 rfl rfl (by omega) (fun _ => rfl)) ?_ | refine ol_pure rfl rfl rfl (pure_indexm (f := int) (l := S) rfl Try.underlying22 sz3 rfl rfl (by omega) (fun _ => rfl)) ?_
      refine ol_pure rfl rfl rfl (pure_load rfl ag3 rfl rfl) ?_
      refine ol_pure rfl rfl rfl (pure_to (b' := false) (pure_lss rfl rfl rfl) (decide_eq_false (by omega))) ?_
      refine ol_pure rfl rfl rfl (pure_move rfl rfl) ?_
      refine ol_pure_g rfl rfl rfl rfl rfl (pure_move rfl rfl) ?_
      refine ol_pick 168 [(3, _), (9, _), (10, _), (11, _), (12, _), (13, _), (14, _), (52, _), (53, _)] [(13, _), (40, _)] rfl ⟨rfl, rfl, rfl, rfl, rfl, rfl, rfl, rfl, rfl, trivial⟩ ⟨rfl, rfl, trivial⟩ ?_
      refine ol_pure_g rfl rfl rfl rfl rfl (pure_move rfl rfl) ?_
      first | refine ol_pure_g rfl rfl rfl rfl rfl (pure_indexn (f := int) (l := S) rfl Try.underlying22 sz3 rfl rfl (by omega) (fun _ => rfl)) ?_ | refine ol_pure_g rfl rfl rfl rfl rfl (pure_indexm (f := int) (l := S) rfl Try.underlying22 sz3 rfl rfl (by omega) (fun _ => rfl)) ?_
      refine ol_pure_g rfl rfl rfl rfl rfl (pure_load rfl ag3 rfl rfl) ?_
      refine ol_pure_g rfl rfl rfl rfl rfl (pure_move rfl rfl) ?_
      refine ol_pure_g rfl rfl rfl rfl rfl (pure_lenm rfl Try.underlying23 rfl) ?_
      refine ol_pure_g rfl rfl rfl rfl rfl (pure_to (b' := false) (pure_geq rfl rfl rfl) (decide_eq_false (by omega))) ?_
      refine ol_pure rfl rfl rfl (pure_pick_f rfl rfl rfl rfl) ?_
      refine ol_pick 168 [(3, _), (9, _), (10, _), (11, _), (12, _), (13, _), (14, _), (60, _)] [(13, _), (40, _)] rfl ⟨rfl, rfl, rfl, rfl, rfl, rfl, rfl, rfl, trivial⟩ ⟨rfl, rfl, trivial⟩ ?_
      refine ol_pure rfl rfl rfl (pure_move rfl rfl) ?_
      refine ol_pure_g rfl rfl rfl rfl rfl (pure_move rfl rfl) ?_
      refine ol_pure_g rfl rfl rfl rfl rfl (pure_move rfl rfl) ?_
      refine ol_pure_g rfl rfl rfl rfl rfl (pure_move rfl rfl) ?_
      first | refine ol_pure_g rfl rfl rfl rfl rfl (pure_indexn (f := int) (l := S) rfl Try.underlying22 sz3 rfl rfl (by omega) (fun _ => rfl)) ?_ | refine ol_pure_g rfl rfl rfl rfl rfl (pure_indexm (f := int) (l := S) rfl Try.underlying22 sz3 rfl rfl (by omega) (fun _ => rfl)) ?_
      refine ol_pure_g rfl rfl rfl rfl rfl (pure_load rfl ag3 rfl rfl) ?_
      refine ol_pure_g rfl rfl rfl rfl rfl (pure_index_own rfl Try.underlying45 sz4 rfl rfl rfl (by rw [List.length_map, seenL_len]; omega)) ?_
      refine ol_pure_g rfl rfl rfl rfl rfl (pure_to (b' := false) (pure_load_pel rfl ag4 rfl rfl (mget (by rw [seenL_len]; omega)) rfl) (hnot)) ?_
      refine ol_pure rfl rfl rfl (pure_pick_f rfl rfl rfl rfl) ?_
      refine ol_nil ?_
      refine seq_pick 168 [(3, _), (9, _), (10, _), (11, _), (12, _), (13, _), (14, _), (69, _)] [(13, _), (40, _)] rfl ⟨rfl, rfl, rfl, rfl, rfl, rfl, rfl, rfl, trivial⟩ ⟨rfl, rfl, trivial⟩ ?_
      refine code_cond_f rfl ?_
      refine code_skip ?_
      refine seq_pick 168 [(3, _), (9, _), (10, _), (11, _), (12, _), (13, _), (14, _)] [(13, _), (40, _)] rfl ⟨rfl, rfl, rfl, rfl, rfl, rfl, rfl, trivial⟩ ⟨rfl, rfl, trivial⟩ ?_
      refine code_seq ?_
      refine code_ops _ rfl ?_
      refine ol_pure rfl rfl rfl (pure_move rfl rfl) ?_
      refine ol_pure rfl rfl rfl (pure_move rfl rfl) ?_
      refine ol_pure rfl rfl rfl (pure_move rfl rfl) ?_
      first | refine ol_pure rfl rfl rfl (pure_indexn (f := int) (l := S) rfl Try.underlying22 sz3 rfl rfl (by omega) (fun _ => rfl)) ?_ | refine ol_pure rfl rfl rfl (pure_indexm (f := int) (l := S) rfl Try.underlying22 sz3 rfl rfl (by omega) (fun _ => rfl)) ?_
      refine ol_pure rfl rfl rfl (pure_load rfl ag3 rfl rfl) ?_
      refine ol_pure rfl rfl rfl (pure_index_own rfl Try.underlying45 sz4 rfl rfl rfl (by rw [List.length_map, seenL_len]; omega)) ?_
      refine ol_step rfl (step_store_pel rfl rfl rfl sz4 rfl rfl (mget (by rw [seenL_len]; omega)) rfl rfl (.inl rfl) rfl (Nat.le_of_ble_eq_true rfl) hM0) ?_
      refine ol_nil ?_
      refine seq_pick 168 [(3, _), (9, _), (10, _), (11, _), (12, _), (13, _), (14, _)] [(13, _), (40, _)] rfl ⟨rfl, rfl, rfl, rfl, rfl, rfl, rfl, trivial⟩ ⟨rfl, rfl, trivial⟩ ?_
      refine code_ops _ rfl ?_
      refine ol_pure rfl rfl rfl (pure_move rfl rfl) ?_
      refine ol_pure rfl rfl rfl (pure_move rfl rfl) ?_
      refine ol_pure rfl rfl rfl (pure_move rfl rfl) ?_
      refine ol_pure rfl rfl rfl (pure_move rfl rfl) ?_
      first | refine ol_pure rfl rfl rfl (pure_indexn (f := int) (l := S) rfl Try.underlying22 sz3 rfl rfl (by omega) (fun _ => rfl)) ?_ | refine ol_pure rfl rfl rfl (pure_indexm (f := int) (l := S) rfl Try.underlying22 sz3 rfl rfl (by omega) (fun _ => rfl)) ?_
      refine ol_pure rfl rfl rfl (pure_load rfl ag3 rfl rfl) ?_
      first | refine ol_pure rfl rfl rfl (pure_indexn (f := ints) (l := W) rfl Try.underlying23 sz22 rfl rfl (by omega) (fun _ => rfl)) ?_ | refine ol_pure rfl rfl rfl (pure_indexm (f := ints) (l := W) rfl Try.underlying23 sz22 rfl rfl (by omega) (fun _ => rfl)) ?_
      refine ol_pick 168 [(3, _), (9, _), (10, _), (11, _), (12, _), (14, _), (76, _), (82, _)] [(13, _), (40, _)] rfl ⟨rfl, rfl, rfl, rfl, rfl, rfl, rfl, rfl, trivial⟩ ⟨rfl, rfl, trivial⟩ ?_
      refine ol_pure rfl rfl rfl (pure_load rfl ag22 rfl rfl) ?_
      refine ol_pure rfl rfl rfl (pure_lit rfl Try.underlying23 el22 rfl rfl rfl rfl hM0) ?_
      refine ol_step rfl (step_append rfl rfl rfl rfl Try.underlying23 el22 rfl rfl hM0 (src_pl rfl (one_len (by rfl))) (by have := vsorted_len A W (i := i) (by omega); simp only [List.length_map, List.length_cons, List.length_nil]; omega) (by have := vsorted_len A W (i := i) (by omega); simp only [List.length_map, List.length_cons, List.length_nil]; omega)) ?_
      refine ol_pure rfl rfl rfl (pure_assign rfl rfl) ?_
      refine ol_nil ?_
      refine blockQ_normal ?_
      refine seq_pick 168 [(3, _), (9, _), (10, _), (11, _), (12, _), (13, _), (14, _)] [(13, _), (40, _)] rfl ⟨rfl, rfl, rfl, rfl, rfl, rfl, rfl, trivial⟩ ⟨rfl, rfl, trivial⟩ ?_
      refine code_ops _ rfl ?_
      refine ol_pure rfl rfl rfl (pure_move rfl rfl) ?_
      refine ol_pure rfl rfl rfl (pure_addi rfl rfl rfl (by omega)) ?_
      refine ol_pure rfl rfl rfl (pure_assign rfl rfl) ?_
      refine ol_nil ?_
      refine loop_next (n := 168) (l := [(3, _), (9, _), (10, _), (11, _), (12, _), (13, _), (14, _)]) (o' := [(13, _), (40, _)]) rfl ⟨rfl, rfl, rfl, rfl, rfl, rfl, rfl, trivial⟩ ⟨rfl, rfl, trivial⟩ ?_   -- loop 1 end 1
      have hs := seen_set (s := S) (n := W.length) (i := i) (by omega) hb
      refine ⟨_, ⟨i + 1, rfl, by omega, ?_⟩, by omega⟩
      rw [← hs, vsorted_succ (by omega), ← hSe, List.map_append]; rfl
    · try simp only [decide_eq_true_eq, decide_eq_false_iff_not, Bool.not_eq_true', Bool.not_eq_false', Bool.and_eq_true, Bool.or_eq_true, Bool.and_eq_false_iff, List.length_map, Int.toNat_natCast] at h1
      obtain rfl : i = W.length := by omega
      refine code_exit ?_
      refine seqQ_exit ?_
      refine loopM_exit ?_
      refine blockQ_same ?_
      refine seq_pick 168 [(3, _), (9, _), (10, _), (13, _)] [(13, _)] rfl ⟨rfl, rfl, rfl, rfl, trivial⟩ ⟨rfl, trivial⟩ ?_
      refine code_seq ?_
      refine code_frz 168 [(3, _), (9, _), (10, _), (13, _)] [] hM0 rfl ⟨.inl rfl, .inl rfl, .inl rfl, .inr ⟨_, _, rfl, rfl, rfl⟩, trivial⟩ trivial ?_
      refine code_ops _ rfl ?_
      refine ol_pure rfl rfl rfl (pure_move rfl rfl) ?_
      refine ol_pure rfl rfl rfl (pure_move rfl rfl) ?_
      refine ol_pure rfl rfl rfl (pure_move rfl rfl) ?_
      refine ol_pure rfl rfl rfl (pure_lenm rfl Try.underlying23 rfl) ?_
      refine ol_pure rfl rfl rfl (pure_call rfl rfl rfl (around_call hat (by omega)) hM0) ?_
      first | refine ol_pure rfl rfl rfl (pure_indexn (f := ints) (l := W) rfl Try.underlying23 sz22 rfl rfl (by omega) (fun _ => rfl)) ?_ | refine ol_pure rfl rfl rfl (pure_indexm (f := ints) (l := W) rfl Try.underlying23 sz22 rfl rfl (by omega) (fun _ => rfl)) ?_
      refine ol_pure rfl rfl rfl (pure_load rfl ag22 rfl rfl) ?_
      refine ol_pure rfl rfl rfl (pure_assign rfl rfl) ?_
      refine ol_nil ?_
      refine seq_pick 168 [(9, _), (13, _), (15, _)] [] rfl ⟨rfl, rfl, rfl, trivial⟩ trivial ?_
      refine code_seq ?_
      refine code_seq ?_
      rw [← hxe]
      refine code_ops _ rfl ?_
      refine ol_pure rfl rfl rfl (pure_assign rfl rfl) ?_
      refine ol_nil ?_
      refine seq_pick 168 [(9, _), (13, _), (15, _), (16, _)] [] rfl ⟨rfl, rfl, rfl, rfl, trivial⟩ trivial ?_
      refine code_block ?_
      refine code_loopM (fun zm zs => ∃ n : Nat, zm = 5 - n ∧ (1 ≤ n ∧ n ≤ 5) ∧ zs = ⟨168, [(9, .v .pl (letters A)), (13, .v .pl (intss (vsorted A W W.length))), (15, .v .pl (ints x)), (16, .v .pl (int n))], []⟩) (loop_init (n := 168) (l := [(9, _), (13, _), (15, _), (16, _)]) (o' := []) rfl ⟨rfl, rfl, rfl, rfl, trivial⟩ trivial ?_) ?_
      · exact ⟨_, 1, rfl, by decide, rfl⟩
      · rintro zm zs ⟨n, rfl, hL2_0, rfl⟩
        have hle := range_le A x n (vsorted A W W.length)
        have hhas := range_has (a := A) (l := W) (n := n) (i := (around ati W.length).toNat) (by omega)
        rw [← hxe] at hhas
        refine code_seq ?_
        refine code_seq ?_
        refine code_ops _ rfl ?_
        refine ol_pure rfl rfl rfl (pure_move rfl rfl) ?_
        refine ol_pure rfl rfl rfl (pure_leq rfl rfl rfl) ?_
        refine ol_nil ?_
        refine seq_pick 168 [(9, _), (13, _), (15, _), (16, _), (94, _)] [] rfl ⟨rfl, rfl, rfl, rfl, rfl, trivial⟩ trivial ?_
        refine code_cond rfl (fun h2 => ?_) (fun h2 => ?_)
        · try simp only [decide_eq_true_eq, decide_eq_false_iff_not, Bool.not_eq_true', Bool.not_eq_false', Bool.and_eq_true, Bool.or_eq_true, Bool.and_eq_false_iff, List.length_map, Int.toNat_natCast] at h2
          refine code_skip ?_
          refine seq_pick 168 [(9, _), (13, _), (15, _), (16, _)] [] rfl ⟨rfl, rfl, rfl, rfl, trivial⟩ trivial ?_
          refine code_seq ?_
          refine code_block ?_
          refine code_seq ?_
          refine code_ops _ rfl ?_
          refine ol_pure rfl rfl rfl (pure_move rfl rfl) ?_
          refine ol_pure rfl rfl rfl (pure_move rfl rfl) ?_
          refine ol_pure rfl rfl rfl (pure_move rfl rfl) ?_
          refine ol_pure rfl rfl rfl (pure_move rfl rfl) ?_
          refine ol_pure rfl rfl rfl (pure_call rfl rfl rfl (hFind n (by omega)) hM0) ?_
          refine ol_pure rfl rfl rfl (pure_move rfl rfl) ?_
          refine ol_pure rfl rfl rfl (pure_extract rfl rfl rfl) ?_
          refine ol_pure rfl rfl rfl (pure_extract rfl rfl rfl) ?_
          refine ol_pure rfl rfl rfl (pure_assign rfl rfl) ?_
          refine ol_pure rfl rfl rfl (pure_assign rfl rfl) ?_
          refine ol_nil ?_
          refine seq_pick 168 [(9, _), (13, _), (15, _), (16, _), (17, _), (18, _)] [] rfl ⟨rfl, rfl, rfl, rfl, rfl, rfl, trivial⟩ trivial ?_
          refine code_seq ?_
          refine code_seq ?_
          refine code_ops _ rfl ?_
          refine ol_pure rfl rfl rfl (pure_move rfl rfl) ?_
          refine ol_pure rfl rfl rfl (pure_to (b' := false) (pure_lss rfl rfl rfl) (decide_eq_false (by omega))) ?_
          refine ol_pure rfl rfl rfl (pure_move rfl rfl) ?_
          refine ol_pure_g rfl rfl rfl rfl rfl (pure_move rfl rfl) ?_
          refine ol_pure_g rfl rfl rfl rfl rfl (pure_move rfl rfl) ?_
          refine ol_pure_g rfl rfl rfl rfl rfl (pure_to (b' := false) (pure_geq rfl rfl rfl) (decide_eq_false (by omega))) ?_
          refine ol_pure rfl rfl rfl (pure_pick_f rfl rfl rfl rfl) ?_
          refine ol_pick 168 [(9, _), (13, _), (15, _), (16, _), (17, _), (18, _), (111, _)] [] rfl ⟨rfl, rfl, rfl, rfl, rfl, rfl, rfl, trivial⟩ trivial ?_
          refine ol_pure rfl rfl rfl (pure_move rfl rfl) ?_
          refine ol_pure_g rfl rfl rfl rfl rfl (pure_move rfl rfl) ?_
          refine ol_pure_g rfl rfl rfl rfl rfl (pure_move rfl rfl) ?_
          refine ol_pure_g rfl rfl rfl rfl rfl (pure_lenm rfl Try.underlying23 rfl) ?_
          refine ol_pure_g rfl rfl rfl rfl rfl (pure_to (b' := false) (pure_gtr rfl rfl rfl) (decide_eq_false (by omega))) ?_
          refine ol_pure rfl rfl rfl (pure_pick_f rfl rfl rfl rfl) ?_
          refine ol_nil ?_
          refine seq_pick 168 [(9, _), (13, _), (15, _), (16, _), (17, _), (18, _), (117, _)] [] rfl ⟨rfl, rfl, rfl, rfl, rfl, rfl, rfl, trivial⟩ trivial ?_
          refine code_cond_f rfl ?_
          refine code_skip ?_
          refine seq_pick 168 [(9, _), (13, _), (15, _), (16, _), (17, _), (18, _)] [] rfl ⟨rfl, rfl, rfl, rfl, rfl, rfl, trivial⟩ trivial ?_
          refine code_seq ?_
          refine code_ops _ rfl ?_
          refine ol_pure rfl rfl rfl (pure_assign rfl rfl) ?_
          refine ol_nil ?_
          refine seq_pick 168 [(9, _), (13, _), (15, _), (16, _), (17, _), (18, _), (19, _)] [] rfl ⟨rfl, rfl, rfl, rfl, rfl, rfl, rfl, trivial⟩ trivial ?_
          refine code_block ?_
          refine code_loopM (fun zm zs => ∃ i : Nat, zm = W.length - i ∧ (i ≤ W.length) ∧ zs = ⟨168, [(9, .v .pl (letters A)), (13, .v .pl (intss (vsorted A W W.length))), (15, .v .pl (ints x)), (16, .v .pl (int n)), (17, .v .pl (int (lessK A x n (vsorted A W W.length)))), (18, .v .pl (int (lessK A x n (vsorted A W W.length) + sameK A x n (vsorted A W W.length) : Nat))), (19, .v .pl (int i))], []⟩) (loop_init (n := 168) (l := [(9, _), (13, _), (15, _), (16, _), (17, _), (18, _), (19, _)]) (o' := []) rfl ⟨rfl, rfl, rfl, rfl, rfl, rfl, rfl, trivial⟩ trivial ?_) ?_
          · exact ⟨_, 0, rfl, Nat.zero_le _, rfl⟩
          · rintro zm zs ⟨i, rfl, hL3_0, rfl⟩
            refine code_seq ?_
            refine code_seq ?_
            refine code_ops _ rfl ?_
            refine ol_pure rfl rfl rfl (pure_move rfl rfl) ?_
            refine ol_pure rfl rfl rfl (pure_move rfl rfl) ?_
            refine ol_pure rfl rfl rfl (pure_lenm rfl Try.underlying23 rfl) ?_
            refine ol_pure rfl rfl rfl (pure_lss rfl rfl rfl) ?_
            refine ol_nil ?_
            refine seq_pick 168 [(9, _), (13, _), (15, _), (16, _), (17, _), (18, _), (19, _), (121, _)] [] rfl ⟨rfl, rfl, rfl, rfl, rfl, rfl, rfl, rfl, trivial⟩ trivial ?_
            refine code_cond rfl (fun h3 => ?_) (fun h3 => ?_)
            · try simp only [decide_eq_true_eq, decide_eq_false_iff_not, Bool.not_eq_true', Bool.not_eq_false', Bool.and_eq_true, Bool.or_eq_true, Bool.and_eq_false_iff, List.length_map, Int.toNat_natCast] at h3
              have hR := range_spec hV (l := W) (n := n) (by omega) x i (by omega)
              obtain ⟨hR1, hR2⟩ := hR
              have hC := cmp_of_less hV (n := n) (by omega) (v := (vsorted A W W.length).getD i default) (x := x)
              have hVg := hVs.get i
              refine code_skip ?_
              refine seq_pick 168 [(9, _), (13, _), (15, _), (16, _), (17, _), (18, _), (19, _)] [] rfl ⟨rfl, rfl, rfl, rfl, rfl, rfl, rfl, trivial⟩ trivial ?_
              refine code_seq ?_
              refine code_block ?_
              refine code_seq ?_
              refine code_ops _ rfl ?_
              refine ol_pure rfl rfl rfl (pure_move rfl rfl) ?_
              refine ol_pure rfl rfl rfl (pure_move rfl rfl) ?_
              refine ol_pure rfl rfl rfl (pure_move rfl rfl) ?_
              first | refine ol_pure rfl rfl rfl (pure_indexn (f := ints) (l := (vsorted A W W.length)) rfl Try.underlying23 sz22 rfl rfl (by rw [hVl]; omega) (fun _ => rfl)) ?_ | refine ol_pure rfl rfl rfl (pure_indexm (f := ints) (l := (vsorted A W W.length)) rfl Try.underlying23 sz22 rfl rfl (by rw [hVl]; omega) (fun _ => rfl)) ?_
              refine ol_pure rfl rfl rfl (pure_load rfl ag22 rfl rfl) ?_
              refine ol_pure rfl rfl rfl (pure_move rfl rfl) ?_
              refine ol_pure rfl rfl rfl (pure_call rfl rfl rfl (ccompare_call hA.len hA.txt hVg hx) hM0) ?_
              refine ol_pure rfl rfl rfl (pure_assign rfl rfl) ?_
              refine ol_nil ?_
              refine seq_pick 168 [(9, _), (13, _), (15, _), (16, _), (17, _), (18, _), (19, _), (20, _)] [] rfl ⟨rfl, rfl, rfl, rfl, rfl, rfl, rfl, rfl, trivial⟩ trivial ?_
              refine code_seq ?_
              refine code_ops _ rfl ?_
              refine ol_pure rfl rfl rfl (pure_move rfl rfl) ?_
              refine ol_pure rfl rfl rfl (pure_move rfl rfl) ?_
              refine ol_pure rfl rfl rfl (pure_geq rfl rfl rfl) ?_
              refine ol_pure rfl rfl rfl (pure_move rfl rfl) ?_
              refine ol_guard rfl (fun h4 => ?_) (fun h4 => ?_)
              · have h4' := h4; try simp only [decide_eq_true_eq, decide_eq_false_iff_not, Bool.not_eq_true', Bool.not_eq_false', Bool.and_eq_true, Bool.or_eq_true, Bool.and_eq_false_iff, List.length_map, Int.toNat_natCast] at h4'
                refine ol_pure_g rfl rfl h4 rfl rfl (pure_move rfl rfl) ?_
                refine ol_pure_g rfl rfl h4 rfl rfl (pure_move rfl rfl) ?_
                refine ol_pure_g rfl rfl h4 rfl rfl (pure_lss rfl rfl rfl) ?_
                refine ol_pure rfl rfl rfl (pure_pick_t rfl rfl h4 rfl) ?_
                refine ol_pure rfl rfl rfl (pure_assign rfl rfl) ?_
                refine ol_nil ?_
                refine seq_pick 168 [(9, _), (13, _), (15, _), (16, _), (17, _), (18, _), (19, _), (20, _), (21, _)] [] rfl ⟨rfl, rfl, rfl, rfl, rfl, rfl, rfl, rfl, rfl, trivial⟩ trivial ?_
                refine code_seq ?_
                refine code_ops _ rfl ?_
                refine ol_pure rfl rfl rfl (pure_move rfl rfl) ?_
                refine ol_pure rfl rfl rfl (pure_move rfl rfl) ?_
                refine ol_pure rfl rfl rfl (pure_move rfl rfl) ?_
                first | refine ol_pure rfl rfl rfl (pure_indexn (f := ints) (l := (vsorted A W W.length)) rfl Try.underlying23 sz22 rfl rfl (by rw [hVl]; omega) (fun _ => rfl)) ?_ | refine ol_pure rfl rfl rfl (pure_indexm (f := ints) (l := (vsorted A W W.length)) rfl Try.underlying23 sz22 rfl rfl (by rw [hVl]; omega) (fun _ => rfl)) ?_
                refine ol_pure rfl rfl rfl (pure_load rfl ag22 rfl rfl) ?_
                refine ol_pure rfl rfl rfl (pure_move rfl rfl) ?_
                refine ol_pure rfl rfl rfl (pure_move rfl rfl) ?_
                refine ol_pick 168 [(9, _), (13, _), (15, _), (16, _), (17, _), (18, _), (19, _), (20, _), (21, _), (139, _), (143, _), (144, _), (145, _)] [] rfl ⟨rfl, rfl, rfl, rfl, rfl, rfl, rfl, rfl, rfl, rfl, rfl, rfl, rfl, trivial⟩ trivial ?_
                refine ol_pure rfl rfl rfl (pure_call rfl rfl rfl (hSame n _ (by omega) hVg) hM0) ?_
                refine ol_pure rfl rfl rfl (pure_move rfl rfl) ?_
                refine ol_pure rfl rfl rfl (pure_to (b' := false) (pure_bne Try.underlying4 rfl rfl rfl) (by simp only [Bool.not_eq_false', beq_iff_eq]; first | (apply decide_eq_decide.2; omega) | (apply decide_eq_false; omega))) ?_
                refine ol_pure rfl rfl rfl (pure_move rfl rfl) ?_
                refine ol_pure_g rfl rfl rfl rfl rfl (pure_move rfl rfl) ?_
                refine ol_pure_g rfl rfl rfl rfl rfl (pure_move rfl rfl) ?_
                refine ol_pure_g rfl rfl rfl rfl rfl (pure_lss rfl rfl rfl) ?_
                refine ol_pick 168 [(9, _), (13, _), (15, _), (16, _), (17, _), (18, _), (19, _), (20, _), (149, _), (152, _)] [] rfl ⟨rfl, rfl, rfl, rfl, rfl, rfl, rfl, rfl, rfl, rfl, trivial⟩ trivial ?_
                refine ol_pure_g rfl rfl rfl rfl rfl (pure_move rfl rfl) ?_
                refine ol_guard rfl (fun h5 => ?_) (fun h5 => ?_)
                · have h5' := h5; try simp only [decide_eq_true_eq, decide_eq_false_iff_not, Bool.not_eq_true', Bool.not_eq_false', Bool.and_eq_true, Bool.or_eq_true, Bool.and_eq_false_iff, List.length_map, Int.toNat_natCast] at h5'
                  refine ol_pure_g rfl rfl h5 rfl rfl (pure_move rfl rfl) ?_
                  refine ol_pure_g rfl rfl h5 rfl rfl (pure_to (b' := false) (pure_neq rfl rfl rfl) (by rw [hC.1 (by omega)]; rfl)) ?_
                  refine ol_pure_g rfl rfl rfl rfl rfl (pure_pick_t rfl rfl h5 rfl) ?_
                  refine ol_pure rfl rfl rfl (pure_pick_f rfl rfl rfl rfl) ?_
                  refine ol_pure rfl rfl rfl (pure_move rfl rfl) ?_
                  refine ol_pure_g rfl rfl rfl rfl rfl (pure_move rfl rfl) ?_
                  refine ol_pick 168 [(9, _), (13, _), (15, _), (16, _), (17, _), (18, _), (19, _), (20, _), (158, _), (159, _)] [] rfl ⟨rfl, rfl, rfl, rfl, rfl, rfl, rfl, rfl, rfl, rfl, trivial⟩ trivial ?_
                  refine ol_pure_g rfl rfl rfl rfl rfl (pure_move rfl rfl) ?_
                  refine ol_pure_g rfl rfl rfl rfl rfl (pure_geq rfl rfl rfl) ?_
                  refine ol_pure_g rfl rfl rfl rfl rfl (pure_move rfl rfl) ?_
                  refine ol_guard rfl (fun h6 => ?_) (fun h6 => ?_)
                  · have h6' := h6; try simp only [decide_eq_true_eq, decide_eq_false_iff_not, Bool.not_eq_true', Bool.not_eq_false', Bool.and_eq_true, Bool.or_eq_true, Bool.and_eq_false_iff, List.length_map, Int.toNat_natCast] at h6'
                    refine ol_pure_g rfl rfl h6 rfl rfl (pure_move rfl rfl) ?_
                    refine ol_pure_g rfl rfl h6 rfl rfl (pure_to (b' := false) (pure_neq rfl rfl rfl) (by rw [hC.2 (by omega)]; rfl)) ?_
                    refine ol_pure_g rfl rfl rfl rfl rfl (pure_pick_t rfl rfl h6 rfl) ?_
                    refine ol_pure rfl rfl rfl (pure_pick_f rfl rfl rfl rfl) ?_
                    refine ol_nil ?_
                    refine seq_pick 168 [(9, _), (13, _), (15, _), (16, _), (17, _), (18, _), (19, _), (166, _)] [] rfl ⟨rfl, rfl, rfl, rfl, rfl, rfl, rfl, rfl, trivial⟩ trivial ?_
                    refine code_cond_f rfl ?_
                    refine code_skip ?_
                    refine blockQ_normal ?_
                    refine seq_pick 168 [(9, _), (13, _), (15, _), (16, _), (17, _), (18, _), (19, _)] [] rfl ⟨rfl, rfl, rfl, rfl, rfl, rfl, rfl, trivial⟩ trivial ?_
                    refine code_ops _ rfl ?_
                    refine ol_pure rfl rfl rfl (pure_move rfl rfl) ?_
                    refine ol_pure rfl rfl rfl (pure_addi rfl rfl rfl (by omega)) ?_
                    refine ol_pure rfl rfl rfl (pure_assign rfl rfl) ?_
                    refine ol_nil ?_
                    refine loop_next (n := 168) (l := [(9, _), (13, _), (15, _), (16, _), (17, _), (18, _), (19, _)]) (o' := []) rfl ⟨rfl, rfl, rfl, rfl, rfl, rfl, rfl, trivial⟩ trivial ?_   -- loop 3 end 1
                    exact ⟨_, ⟨i + 1, rfl, by omega, rfl⟩, by omega⟩
                  · have h6' := h6; try simp only [decide_eq_true_eq, decide_eq_false_iff_not, Bool.not_eq_true', Bool.not_eq_false', Bool.and_eq_true, Bool.or_eq_true, Bool.and_eq_false_iff, List.length_map, Int.toNat_natCast] at h6'
                    refine ol_skip_g rfl rfl h6 rfl rfl ?_
                    refine ol_skip_g rfl rfl h6 rfl rfl ?_
                    refine ol_pure_g rfl rfl rfl rfl rfl (pure_pick_f rfl rfl h6 rfl) ?_
                    refine ol_pure rfl rfl rfl (pure_pick_f rfl rfl rfl rfl) ?_
                    refine ol_nil ?_
                    refine seq_pick 168 [(9, _), (13, _), (15, _), (16, _), (17, _), (18, _), (19, _), (166, _)] [] rfl ⟨rfl, rfl, rfl, rfl, rfl, rfl, rfl, rfl, trivial⟩ trivial ?_
                    refine code_cond_f rfl ?_
                    refine code_skip ?_
                    refine blockQ_normal ?_
                    refine seq_pick 168 [(9, _), (13, _), (15, _), (16, _), (17, _), (18, _), (19, _)] [] rfl ⟨rfl, rfl, rfl, rfl, rfl, rfl, rfl, trivial⟩ trivial ?_
                    refine code_ops _ rfl ?_
                    refine ol_pure rfl rfl rfl (pure_move rfl rfl) ?_
                    refine ol_pure rfl rfl rfl (pure_addi rfl rfl rfl (by omega)) ?_
                    refine ol_pure rfl rfl rfl (pure_assign rfl rfl) ?_
                    refine ol_nil ?_
                    refine loop_next (n := 168) (l := [(9, _), (13, _), (15, _), (16, _), (17, _), (18, _), (19, _)]) (o' := []) rfl ⟨rfl, rfl, rfl, rfl, rfl, rfl, rfl, trivial⟩ trivial ?_   -- loop 3 end 2
                    exact ⟨_, ⟨i + 1, rfl, by omega, rfl⟩, by omega⟩
                · have h5' := h5; try simp only [decide_eq_true_eq, decide_eq_false_iff_not, Bool.not_eq_true', Bool.not_eq_false', Bool.and_eq_true, Bool.or_eq_true, Bool.and_eq_false_iff, List.length_map, Int.toNat_natCast] at h5'
                  refine ol_skip_g rfl rfl h5 rfl rfl ?_
                  refine ol_skip_g rfl rfl h5 rfl rfl ?_
                  refine ol_pure_g rfl rfl rfl rfl rfl (pure_pick_f rfl rfl h5 rfl) ?_
                  refine ol_pure rfl rfl rfl (pure_pick_f rfl rfl rfl rfl) ?_
                  refine ol_pure rfl rfl rfl (pure_move rfl rfl) ?_
                  refine ol_pure_g rfl rfl rfl rfl rfl (pure_move rfl rfl) ?_
                  refine ol_pick 168 [(9, _), (13, _), (15, _), (16, _), (17, _), (18, _), (19, _), (20, _), (158, _), (159, _)] [] rfl ⟨rfl, rfl, rfl, rfl, rfl, rfl, rfl, rfl, rfl, rfl, trivial⟩ trivial ?_
                  refine ol_pure_g rfl rfl rfl rfl rfl (pure_move rfl rfl) ?_
                  refine ol_pure_g rfl rfl rfl rfl rfl (pure_geq rfl rfl rfl) ?_
                  refine ol_pure_g rfl rfl rfl rfl rfl (pure_move rfl rfl) ?_
                  refine ol_guard rfl (fun h7 => ?_) (fun h7 => ?_)
                  · have h7' := h7; try simp only [decide_eq_true_eq, decide_eq_false_iff_not, Bool.not_eq_true', Bool.not_eq_false', Bool.and_eq_true, Bool.or_eq_true, Bool.and_eq_false_iff, List.length_map, Int.toNat_natCast] at h7'
                    refine ol_pure_g rfl rfl h7 rfl rfl (pure_move rfl rfl) ?_
                    refine ol_pure_g rfl rfl h7 rfl rfl (pure_to (b' := false) (pure_neq rfl rfl rfl) (by rw [hC.2 (by omega)]; rfl)) ?_
                    refine ol_pure_g rfl rfl rfl rfl rfl (pure_pick_t rfl rfl h7 rfl) ?_
                    refine ol_pure rfl rfl rfl (pure_pick_f rfl rfl rfl rfl) ?_
                    refine ol_nil ?_
                    refine seq_pick 168 [(9, _), (13, _), (15, _), (16, _), (17, _), (18, _), (19, _), (166, _)] [] rfl ⟨rfl, rfl, rfl, rfl, rfl, rfl, rfl, rfl, trivial⟩ trivial ?_
                    refine code_cond_f rfl ?_
                    refine code_skip ?_
                    refine blockQ_normal ?_
                    refine seq_pick 168 [(9, _), (13, _), (15, _), (16, _), (17, _), (18, _), (19, _)] [] rfl ⟨rfl, rfl, rfl, rfl, rfl, rfl, rfl, trivial⟩ trivial ?_
                    refine code_ops _ rfl ?_
                    refine ol_pure rfl rfl rfl (pure_move rfl rfl) ?_
                    refine ol_pure rfl rfl rfl (pure_addi rfl rfl rfl (by omega)) ?_
                    refine ol_pure rfl rfl rfl (pure_assign rfl rfl) ?_
                    refine ol_nil ?_
                    refine loop_next (n := 168) (l := [(9, _), (13, _), (15, _), (16, _), (17, _), (18, _), (19, _)]) (o' := []) rfl ⟨rfl, rfl, rfl, rfl, rfl, rfl, rfl, trivial⟩ trivial ?_   -- loop 3 end 3
                    exact ⟨_, ⟨i + 1, rfl, by omega, rfl⟩, by omega⟩
                  · have h7' := h7; try simp only [decide_eq_true_eq, decide_eq_false_iff_not, Bool.not_eq_true', Bool.not_eq_false', Bool.and_eq_true, Bool.or_eq_true, Bool.and_eq_false_iff, List.length_map, Int.toNat_natCast] at h7'
                    refine ol_skip_g rfl rfl h7 rfl rfl ?_
                    refine ol_skip_g rfl rfl h7 rfl rfl ?_
                    refine ol_pure_g rfl rfl rfl rfl rfl (pure_pick_f rfl rfl h7 rfl) ?_
                    refine ol_pure rfl rfl rfl (pure_pick_f rfl rfl rfl rfl) ?_
                    refine ol_nil ?_
                    refine seq_pick 168 [(9, _), (13, _), (15, _), (16, _), (17, _), (18, _), (19, _), (166, _)] [] rfl ⟨rfl, rfl, rfl, rfl, rfl, rfl, rfl, rfl, trivial⟩ trivial ?_
                    refine code_cond_f rfl ?_
                    refine code_skip ?_
                    refine blockQ_normal ?_
                    refine seq_pick 168 [(9, _), (13, _), (15, _), (16, _), (17, _), (18, _), (19, _)] [] rfl ⟨rfl, rfl, rfl, rfl, rfl, rfl, rfl, trivial⟩ trivial ?_
                    refine code_ops _ rfl ?_
                    refine ol_pure rfl rfl rfl (pure_move rfl rfl) ?_
                    refine ol_pure rfl rfl rfl (pure_addi rfl rfl rfl (by omega)) ?_
                    refine ol_pure rfl rfl rfl (pure_assign rfl rfl) ?_
                    refine ol_nil ?_
                    refine loop_next (n := 168) (l := [(9, _), (13, _), (15, _), (16, _), (17, _), (18, _), (19, _)]) (o' := []) rfl ⟨rfl, rfl, rfl, rfl, rfl, rfl, rfl, trivial⟩ trivial ?_   -- loop 3 end 4
                    exact ⟨_, ⟨i + 1, rfl, by omega, rfl⟩, by omega⟩
              · have h4' := h4; try simp only [decide_eq_true_eq, decide_eq_false_iff_not, Bool.not_eq_true', Bool.not_eq_false', Bool.and_eq_true, Bool.or_eq_true, Bool.and_eq_false_iff, List.length_map, Int.toNat_natCast] at h4'
                refine ol_skip_g rfl rfl h4 rfl rfl ?_
                refine ol_skip_g rfl rfl h4 rfl rfl ?_
                refine ol_skip_g rfl rfl h4 rfl rfl ?_
                refine ol_pure rfl rfl rfl (pure_pick_f rfl rfl h4 rfl) ?_
                refine ol_pure rfl rfl rfl (pure_assign rfl rfl) ?_
                refine ol_nil ?_
                refine seq_pick 168 [(9, _), (13, _), (15, _), (16, _), (17, _), (18, _), (19, _), (20, _), (21, _)] [] rfl ⟨rfl, rfl, rfl, rfl, rfl, rfl, rfl, rfl, rfl, trivial⟩ trivial ?_
                refine code_seq ?_
                refine code_ops _ rfl ?_
                refine ol_pure rfl rfl rfl (pure_move rfl rfl) ?_
                refine ol_pure rfl rfl rfl (pure_move rfl rfl) ?_
                refine ol_pure rfl rfl rfl (pure_move rfl rfl) ?_
                first | refine ol_pure rfl rfl rfl (pure_indexn (f := ints) (l := (vsorted A W W.length)) rfl Try.underlying23 sz22 rfl rfl (by rw [hVl]; omega) (fun _ => rfl)) ?_ | refine ol_pure rfl rfl rfl (pure_indexm (f := ints) (l := (vsorted A W W.length)) rfl Try.underlying23 sz22 rfl rfl (by rw [hVl]; omega) (fun _ => rfl)) ?_
                refine ol_pure rfl rfl rfl (pure_load rfl ag22 rfl rfl) ?_
                refine ol_pure rfl rfl rfl (pure_move rfl rfl) ?_
                refine ol_pure rfl rfl rfl (pure_move rfl rfl) ?_
                refine ol_pick 168 [(9, _), (13, _), (15, _), (16, _), (17, _), (18, _), (19, _), (20, _), (21, _), (139, _), (143, _), (144, _), (145, _)] [] rfl ⟨rfl, rfl, rfl, rfl, rfl, rfl, rfl, rfl, rfl, rfl, rfl, rfl, rfl, trivial⟩ trivial ?_
                refine ol_pure rfl rfl rfl (pure_call rfl rfl rfl (hSame n _ (by omega) hVg) hM0) ?_
                refine ol_pure rfl rfl rfl (pure_move rfl rfl) ?_
                refine ol_pure rfl rfl rfl (pure_to (b' := false) (pure_bne Try.underlying4 rfl rfl rfl) (by simp only [Bool.not_eq_false', beq_iff_eq]; first | (apply decide_eq_decide.2; omega) | (apply decide_eq_false; omega))) ?_
                refine ol_pure rfl rfl rfl (pure_move rfl rfl) ?_
                refine ol_pure_g rfl rfl rfl rfl rfl (pure_move rfl rfl) ?_
                refine ol_pure_g rfl rfl rfl rfl rfl (pure_move rfl rfl) ?_
                refine ol_pure_g rfl rfl rfl rfl rfl (pure_lss rfl rfl rfl) ?_
                refine ol_pick 168 [(9, _), (13, _), (15, _), (16, _), (17, _), (18, _), (19, _), (20, _), (149, _), (152, _)] [] rfl ⟨rfl, rfl, rfl, rfl, rfl, rfl, rfl, rfl, rfl, rfl, trivial⟩ trivial ?_
                refine ol_pure_g rfl rfl rfl rfl rfl (pure_move rfl rfl) ?_
                refine ol_guard rfl (fun h8 => ?_) (fun h8 => ?_)
                · have h8' := h8; try simp only [decide_eq_true_eq, decide_eq_false_iff_not, Bool.not_eq_true', Bool.not_eq_false', Bool.and_eq_true, Bool.or_eq_true, Bool.and_eq_false_iff, List.length_map, Int.toNat_natCast] at h8'
                  refine ol_pure_g rfl rfl h8 rfl rfl (pure_move rfl rfl) ?_
                  refine ol_pure_g rfl rfl h8 rfl rfl (pure_to (b' := false) (pure_neq rfl rfl rfl) (by rw [hC.1 (by omega)]; rfl)) ?_
                  refine ol_pure_g rfl rfl rfl rfl rfl (pure_pick_t rfl rfl h8 rfl) ?_
                  refine ol_pure rfl rfl rfl (pure_pick_f rfl rfl rfl rfl) ?_
                  refine ol_pure rfl rfl rfl (pure_move rfl rfl) ?_
                  refine ol_pure_g rfl rfl rfl rfl rfl (pure_move rfl rfl) ?_
                  refine ol_pick 168 [(9, _), (13, _), (15, _), (16, _), (17, _), (18, _), (19, _), (20, _), (158, _), (159, _)] [] rfl ⟨rfl, rfl, rfl, rfl, rfl, rfl, rfl, rfl, rfl, rfl, trivial⟩ trivial ?_
                  refine ol_pure_g rfl rfl rfl rfl rfl (pure_move rfl rfl) ?_
                  refine ol_pure_g rfl rfl rfl rfl rfl (pure_geq rfl rfl rfl) ?_
                  refine ol_pure_g rfl rfl rfl rfl rfl (pure_move rfl rfl) ?_
                  refine ol_guard rfl (fun h9 => ?_) (fun h9 => ?_)
                  · have h9' := h9; try simp only [decide_eq_true_eq, decide_eq_false_iff_not, Bool.not_eq_true', Bool.not_eq_false', Bool.and_eq_true, Bool.or_eq_true, Bool.and_eq_false_iff, List.length_map, Int.toNat_natCast] at h9'
                    refine ol_pure_g rfl rfl h9 rfl rfl (pure_move rfl rfl) ?_
                    refine ol_pure_g rfl rfl h9 rfl rfl (pure_to (b' := false) (pure_neq rfl rfl rfl) (by rw [hC.2 (by omega)]; rfl)) ?_
                    refine ol_pure_g rfl rfl rfl rfl rfl (pure_pick_t rfl rfl h9 rfl) ?_
                    refine ol_pure rfl rfl rfl (pure_pick_f rfl rfl rfl rfl) ?_
                    refine ol_nil ?_
                    refine seq_pick 168 [(9, _), (13, _), (15, _), (16, _), (17, _), (18, _), (19, _), (166, _)] [] rfl ⟨rfl, rfl, rfl, rfl, rfl, rfl, rfl, rfl, trivial⟩ trivial ?_
                    refine code_cond_f rfl ?_
                    refine code_skip ?_
                    refine blockQ_normal ?_
                    refine seq_pick 168 [(9, _), (13, _), (15, _), (16, _), (17, _), (18, _), (19, _)] [] rfl ⟨rfl, rfl, rfl, rfl, rfl, rfl, rfl, trivial⟩ trivial ?_
                    refine code_ops _ rfl ?_
                    refine ol_pure rfl rfl rfl (pure_move rfl rfl) ?_
                    refine ol_pure rfl rfl rfl (pure_addi rfl rfl rfl (by omega)) ?_
                    refine ol_pure rfl rfl rfl (pure_assign rfl rfl) ?_
                    refine ol_nil ?_
                    refine loop_next (n := 168) (l := [(9, _), (13, _), (15, _), (16, _), (17, _), (18, _), (19, _)]) (o' := []) rfl ⟨rfl, rfl, rfl, rfl, rfl, rfl, rfl, trivial⟩ trivial ?_   -- loop 3 end 5
                    exact ⟨_, ⟨i + 1, rfl, by omega, rfl⟩, by omega⟩
                  · have h9' := h9; try simp only [decide_eq_true_eq, decide_eq_false_iff_not, Bool.not_eq_true', Bool.not_eq_false', Bool.and_eq_true, Bool.or_eq_true, Bool.and_eq_false_iff, List.length_map, Int.toNat_natCast] at h9'
                    refine ol_skip_g rfl rfl h9 rfl rfl ?_
                    refine ol_skip_g rfl rfl h9 rfl rfl ?_
                    refine ol_pure_g rfl rfl rfl rfl rfl (pure_pick_f rfl rfl h9 rfl) ?_
                    refine ol_pure rfl rfl rfl (pure_pick_f rfl rfl rfl rfl) ?_
                    refine ol_nil ?_
                    refine seq_pick 168 [(9, _), (13, _), (15, _), (16, _), (17, _), (18, _), (19, _), (166, _)] [] rfl ⟨rfl, rfl, rfl, rfl, rfl, rfl, rfl, rfl, trivial⟩ trivial ?_
                    refine code_cond_f rfl ?_
                    refine code_skip ?_
                    refine blockQ_normal ?_
                    refine seq_pick 168 [(9, _), (13, _), (15, _), (16, _), (17, _), (18, _), (19, _)] [] rfl ⟨rfl, rfl, rfl, rfl, rfl, rfl, rfl, trivial⟩ trivial ?_
                    refine code_ops _ rfl ?_
                    refine ol_pure rfl rfl rfl (pure_move rfl rfl) ?_
                    refine ol_pure rfl rfl rfl (pure_addi rfl rfl rfl (by omega)) ?_
                    refine ol_pure rfl rfl rfl (pure_assign rfl rfl) ?_
                    refine ol_nil ?_
                    refine loop_next (n := 168) (l := [(9, _), (13, _), (15, _), (16, _), (17, _), (18, _), (19, _)]) (o' := []) rfl ⟨rfl, rfl, rfl, rfl, rfl, rfl, rfl, trivial⟩ trivial ?_   -- loop 3 end 6
                    exact ⟨_, ⟨i + 1, rfl, by omega, rfl⟩, by omega⟩
                · have h8' := h8; try simp only [decide_eq_true_eq, decide_eq_false_iff_not, Bool.not_eq_true', Bool.not_eq_false', Bool.and_eq_true, Bool.or_eq_true, Bool.and_eq_false_iff, List.length_map, Int.toNat_natCast] at h8'
                  refine ol_skip_g rfl rfl h8 rfl rfl ?_
                  refine ol_skip_g rfl rfl h8 rfl rfl ?_
                  refine ol_pure_g rfl rfl rfl rfl rfl (pure_pick_f rfl rfl h8 rfl) ?_
                  refine ol_pure rfl rfl rfl (pure_pick_f rfl rfl rfl rfl) ?_
                  refine ol_pure rfl rfl rfl (pure_move rfl rfl) ?_
                  refine ol_pure_g rfl rfl rfl rfl rfl (pure_move rfl rfl) ?_
                  refine ol_pick 168 [(9, _), (13, _), (15, _), (16, _), (17, _), (18, _), (19, _), (20, _), (158, _), (159, _)] [] rfl ⟨rfl, rfl, rfl, rfl, rfl, rfl, rfl, rfl, rfl, rfl, trivial⟩ trivial ?_
                  refine ol_pure_g rfl rfl rfl rfl rfl (pure_move rfl rfl) ?_
                  refine ol_pure_g rfl rfl rfl rfl rfl (pure_geq rfl rfl rfl) ?_
                  refine ol_pure_g rfl rfl rfl rfl rfl (pure_move rfl rfl) ?_
                  refine ol_guard rfl (fun h10 => ?_) (fun h10 => ?_)
                  · have h10' := h10; try simp only [decide_eq_true_eq, decide_eq_false_iff_not, Bool.not_eq_true', Bool.not_eq_false', Bool.and_eq_true, Bool.or_eq_true, Bool.and_eq_false_iff, List.length_map, Int.toNat_natCast] at h10'
                    refine ol_pure_g rfl rfl h10 rfl rfl (pure_move rfl rfl) ?_
                    refine ol_pure_g rfl rfl h10 rfl rfl (pure_to (b' := false) (pure_neq rfl rfl rfl) (by rw [hC.2 (by omega)]; rfl)) ?_
                    refine ol_pure_g rfl rfl rfl rfl rfl (pure_pick_t rfl rfl h10 rfl) ?_
                    refine ol_pure rfl rfl rfl (pure_pick_f rfl rfl rfl rfl) ?_
                    refine ol_nil ?_
                    refine seq_pick 168 [(9, _), (13, _), (15, _), (16, _), (17, _), (18, _), (19, _), (166, _)] [] rfl ⟨rfl, rfl, rfl, rfl, rfl, rfl, rfl, rfl, trivial⟩ trivial ?_
                    refine code_cond_f rfl ?_
                    refine code_skip ?_
                    refine blockQ_normal ?_
                    refine seq_pick 168 [(9, _), (13, _), (15, _), (16, _), (17, _), (18, _), (19, _)] [] rfl ⟨rfl, rfl, rfl, rfl, rfl, rfl, rfl, trivial⟩ trivial ?_
                    refine code_ops _ rfl ?_
                    refine ol_pure rfl rfl rfl (pure_move rfl rfl) ?_
                    refine ol_pure rfl rfl rfl (pure_addi rfl rfl rfl (by omega)) ?_
                    refine ol_pure rfl rfl rfl (pure_assign rfl rfl) ?_
                    refine ol_nil ?_
                    refine loop_next (n := 168) (l := [(9, _), (13, _), (15, _), (16, _), (17, _), (18, _), (19, _)]) (o' := []) rfl ⟨rfl, rfl, rfl, rfl, rfl, rfl, rfl, trivial⟩ trivial ?_   -- loop 3 end 7
                    exact ⟨_, ⟨i + 1, rfl, by omega, rfl⟩, by omega⟩
                  · have h10' := h10; try simp only [decide_eq_true_eq, decide_eq_false_iff_not, Bool.not_eq_true', Bool.not_eq_false', Bool.and_eq_true, Bool.or_eq_true, Bool.and_eq_false_iff, List.length_map, Int.toNat_natCast] at h10'
                    refine ol_skip_g rfl rfl h10 rfl rfl ?_
                    refine ol_skip_g rfl rfl h10 rfl rfl ?_
                    refine ol_pure_g rfl rfl rfl rfl rfl (pure_pick_f rfl rfl h10 rfl) ?_
                    refine ol_pure rfl rfl rfl (pure_pick_f rfl rfl rfl rfl) ?_
                    refine ol_nil ?_
                    refine seq_pick 168 [(9, _), (13, _), (15, _), (16, _), (17, _), (18, _), (19, _), (166, _)] [] rfl ⟨rfl, rfl, rfl, rfl, rfl, rfl, rfl, rfl, trivial⟩ trivial ?_
                    refine code_cond_f rfl ?_
                    refine code_skip ?_
                    refine blockQ_normal ?_
                    refine seq_pick 168 [(9, _), (13, _), (15, _), (16, _), (17, _), (18, _), (19, _)] [] rfl ⟨rfl, rfl, rfl, rfl, rfl, rfl, rfl, trivial⟩ trivial ?_
                    refine code_ops _ rfl ?_
                    refine ol_pure rfl rfl rfl (pure_move rfl rfl) ?_
                    refine ol_pure rfl rfl rfl (pure_addi rfl rfl rfl (by omega)) ?_
                    refine ol_pure rfl rfl rfl (pure_assign rfl rfl) ?_
                    refine ol_nil ?_
                    refine loop_next (n := 168) (l := [(9, _), (13, _), (15, _), (16, _), (17, _), (18, _), (19, _)]) (o' := []) rfl ⟨rfl, rfl, rfl, rfl, rfl, rfl, rfl, trivial⟩ trivial ?_   -- loop 3 end 8
                    exact ⟨_, ⟨i + 1, rfl, by omega, rfl⟩, by omega⟩
            · try simp only [decide_eq_true_eq, decide_eq_false_iff_not, Bool.not_eq_true', Bool.not_eq_false', Bool.and_eq_true, Bool.or_eq_true, Bool.and_eq_false_iff, List.length_map, Int.toNat_natCast] at h3
              refine code_exit ?_
              refine seqQ_exit ?_
              refine loopM_exit ?_
              refine blockQ_same ?_
              refine blockQ_normal ?_
              refine seq_pick 168 [(9, _), (13, _), (15, _), (16, _)] [] rfl ⟨rfl, rfl, rfl, rfl, trivial⟩ trivial ?_
              refine code_ops _ rfl ?_
              refine ol_pure rfl rfl rfl (pure_move rfl rfl) ?_
              refine ol_pure rfl rfl rfl (pure_addi rfl rfl rfl (by omega)) ?_
              refine ol_pure rfl rfl rfl (pure_assign rfl rfl) ?_
              refine ol_nil ?_
              refine loop_next (n := 168) (l := [(9, _), (13, _), (15, _), (16, _)]) (o' := []) rfl ⟨rfl, rfl, rfl, rfl, trivial⟩ trivial ?_   -- loop 2 end 1
              exact ⟨_, ⟨n + 1, rfl, by omega, rfl⟩, by omega⟩
        · try simp only [decide_eq_true_eq, decide_eq_false_iff_not, Bool.not_eq_true', Bool.not_eq_false', Bool.and_eq_true, Bool.or_eq_true, Bool.and_eq_false_iff, List.length_map, Int.toNat_natCast] at h2
          refine code_exit ?_
          refine seqQ_exit ?_
          refine loopM_exit ?_
          refine blockQ_same ?_
          refine seq_pick 168 [] [] rfl trivial trivial ?_
          refine code_seq ?_
          refine code_ops _ rfl ?_
          refine ol_pure rfl rfl rfl (pure_call rfl rfl rfl (lives_call) hM0) ?_
          refine ol_pure rfl rfl rfl (pure_assign rfl rfl) ?_
          refine ol_nil ?_
          refine seq_pick 168 [(8, _)] [] rfl ⟨rfl, trivial⟩ trivial ?_
          refine code_ret ?_
          refine end_ret rfl ?_   -- end 1
          rfl
/-! The statement CollateRangesSaid. -/
namespace collateRanges
open Go.ChangeShapes Go.WideShapes Go.ChangeAt Go.RowKit Go.Am
theorem own : ownKnob Try.prog.godebug = none := by kernel_rfl
set_option maxRecDepth 100000 in
theorem lifted (os : Os) (started : os.Started) (H : Type) (enc : TypeId × Value → H) :
    ReturnsInHanded {} Try.checked os 8 .any (Rows.collateRangesSpec.pre6 enc Try.prog Try.f8 Rows.collateRangesRow.domain false) (Rows.collateRangesSpec.post enc Try.prog Try.f8 false true false false) := by
  refine returnsInHanded_of_change (C := Try.checked) own started (by kernel_rfl) Try.func8
    (ChangeSpec.witness6 (enc := enc) (C := Try.checked) false ⟨#[], #[.slice none 0 0, .slice none 0 0, .int .i64 0, .int .i64 0], []⟩ 8 (by kernel_rfl) (by kernel_rfl) (by kernel_rfl) (by kernel_rfl)) ?_
  intro W base args ds gs before hval0 hW hcnd _
  have hval : ∀ (j : Nat) t v, Try.f8.params[j]? = some t → args[j]? = some v → Value.okWide Try.prog W .any base t v := hval0
  have hW' := hW
  obtain ⟨p, q, hA0, hV, rfl, hfz, hnd⟩ := hW
  have hA : DataW.TrodAll enc Try.prog W 0 (fun _ => true) true Try.f8.params.toList args.toList ds p := hA0
  rw [Try.params8] at hA hval
  obtain ⟨v0, vs0, d0, ds0, p0, q0, hargs, rfl, rfl, h0, r0⟩ := trodAll_cons hA
  obtain ⟨v1, vs1, d1, ds1, p1, q1, rfl, rfl, rfl, h1, r1⟩ := trodAll_cons r0
  obtain ⟨v2, vs2, d2, ds2, p2, q2, rfl, rfl, rfl, h2, r2⟩ := trodAll_cons r1
  obtain ⟨v3, vs3, d3, ds3, p3, q3, rfl, rfl, rfl, h3, r3⟩ := trodAll_cons r2
  obtain ⟨rfl, rfl, rfl⟩ := trodAll_nil r3
  obtain rfl : args = #[v0, v1, v2, v3] := by cases args; simp_all
  obtain ⟨x0, y0, z0, e0⟩ := open_intsA Try.underlying22 Try.underlying3 sz3 (hval 0 22 v0 rfl rfl) h0
  obtain ⟨x1, y1, z1, e1⟩ := open_intsA Try.underlying22 Try.underlying3 sz3 (hval 1 22 v1 rfl rfl) h1
  obtain ⟨x2, y2, e2⟩ := open_intA Try.underlying3 (hval 2 3 v2 rfl rfl) h2
  obtain ⟨x3, y3, e3⟩ := open_intA Try.underlying3 (hval 3 3 v3 rfl rfl) h3
  have hcall := (ranges_law z0 y0 z1 y2 y3).use (w := W) (vs := [v0, v1, v2, v3]) ⟨e0, e1, e2, e3, trivial⟩
  exact law_post (tb := 4) (by kernel_rfl) (by kernel_rfl) (by kernel_rfl) Try.underlying4 rfl rfl hW' hcall
theorem over : Rows.collateRangesRow.holds Try.pinned (OpenSpec.ofChange Rows.collateRangesSpec) :=
  OpenClaim.holds_of_wide 8 Try.f8 rfl rfl rfl rfl rfl rfl rfl ⟨rfl, rfl, rfl, rfl, rfl⟩ rfl rfl rfl rfl rfl (by kernel_rfl) Try.func8 (by kernel_rfl)
    (of_decide_eq_true (by kernel_rfl)) (by unfold Func.isWrapper; first | (rw [if_pos (by decide +kernel)]; kernel_rfl) | (rw [if_neg (by decide +kernel)]; exact ⟨rfl, rfl⟩))
    (fun os started H enc _ => lifted os started H enc)
end collateRanges
theorem collateRanges_holds : Rows.CollateRangesSaid := collateRanges.over
end Go.Proofs.Ytcimmcjnkphagaa
