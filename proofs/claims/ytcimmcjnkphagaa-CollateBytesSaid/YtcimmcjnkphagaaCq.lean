/-
  Contract of the program's Sort.
-/
import Derived.Test.YtcimmcjnkphagaaCp
import Derived.Test.YtcimmcjnkphagaaAm17
import Derived.Test.YtcimmcjnkphagaaPm
import Derived.Test.YtcimmcjnkphagaaLay
namespace Go.Proofs.Ytcimmcjnkphagaa
open Go.Am Go.Wb
set_option linter.unusedVariables false
set_option linter.unusedSimpArgs false
theorem sorts_slices : SortsI Try.prog 49 :=
  ⟨⟨Try.f49, Try.func49, by kernel_rfl, by kernel_rfl⟩,
   fun p cap fv w => AnyF.slices_SortFunc_none { Try.sortI with } p cap fv w,
   fun enc h1 cf hO g cb blk off cap d w eg hcmp hH hblk hsz hT => Any.slices_SortFunc_total Try.sortI enc h1 cf hO g cb blk off cap d w eg hcmp hH hblk hsz hT⟩
theorem sortcmp_callable : Callable Try.prog 50 := ⟨Try.f50, Try.func50, by kernel_rfl, by kernel_rfl⟩
theorem keysP_len {a : List Letter} {l : List (List Int)} : ((keysP a l).length : Int) = l.length := by simp [keysP]
theorem keysP_succ {a : List Letter} {l : List (List Int)} {i : Nat} (h : i < l.length) : keysP a (l.take (i + 1)) = keysP a (l.take i) ++ [keyP a (l.getD i default) 4] := by
  rw [take_succ h]; simp [keysP]
theorem fn28 : Fn1 Try.prog 28 Try.f28.ntmps 4 (Try.f28.body.getD .skip) := ⟨Try.f28, Try.func28, rfl, rfl, rfl, by kernel_rfl⟩
set_option maxRecDepth 100000 in
set_option maxHeartbeats 4000000 in
theorem csort_call {a : List Letter} {l : List (List Int)} (ha : a.length ≤ 1099511627776) (ht : ∀ x ∈ a, x.text.length ≤ 1099511627776) (hl : l.length ≤ 1099511627776) (hll : shortL l) :
    CallF Try.prog 28 [letters a, intss l] (.fresh 3 ((if validA a = true then sortN a l l.length else []).map int)) := by
  have hks : shortK (keysP a l) := fun v hv => by
    obtain ⟨w, hw, rfl⟩ := List.mem_map.1 hv
    have := hll w hw; have := keyP_len4 a w 4 (by omega); omega
  refine callF_of_code fn28 (Nat.le_of_ble_eq_true rfl) fun w0 M0 hM0 => ?_
  refine code_seq ?_
  refine code_ops _ rfl ?_
  refine ol_step rfl (step_nil rfl rfl rfl rfl rfl 3 hM0) ?_
  refine ol_nil ?_
  refine seq_pick 34 [(0, _), (1, _)] [] rfl ⟨rfl, rfl, trivial⟩ trivial ?_
  refine code_seq ?_
  refine code_seq ?_
  refine code_ops _ rfl ?_
  refine ol_pure rfl rfl rfl (pure_move rfl rfl) ?_
  refine ol_pure rfl rfl rfl (pure_call rfl rfl rfl (usable_call (by assumption) (by assumption)) hM0) ?_
  refine ol_pure rfl rfl rfl (pure_not rfl rfl) ?_
  refine ol_nil ?_
  refine seq_pick 34 [(0, _), (1, _), (11, _)] [] rfl ⟨rfl, rfl, rfl, trivial⟩ trivial ?_
  refine code_cond rfl (fun h1 => ?_) (fun h1 => ?_)
  · try simp only [decide_eq_true_eq, decide_eq_false_iff_not, Bool.not_eq_true', Bool.not_eq_false', Bool.and_eq_true, Bool.or_eq_true, Bool.and_eq_false_iff, List.length_map, Int.toNat_natCast] at h1
    refine code_seq ?_
    refine code_ops _ rfl ?_
    refine ol_step rfl (step_nil rfl rfl rfl rfl rfl 3 hM0) ?_
    refine ol_nil ?_
    refine seq_pick 34 [(4, _)] [(4, _)] rfl ⟨rfl, trivial⟩ ⟨rfl, trivial⟩ ?_
    refine code_ret ?_
    refine seqQ_ret ?_
    refine end_ret rfl ?_   -- end 1
    rw [if_neg (by simp_all)]; rfl
  · try simp only [decide_eq_true_eq, decide_eq_false_iff_not, Bool.not_eq_true', Bool.not_eq_false', Bool.and_eq_true, Bool.or_eq_true, Bool.and_eq_false_iff, List.length_map, Int.toNat_natCast] at h1
    have hval : validA a = true := by simp_all
    refine code_skip ?_
    refine seq_pick 34 [(0, _), (1, _)] [] rfl ⟨rfl, rfl, trivial⟩ trivial ?_
    refine code_seq ?_
    refine code_ops _ rfl ?_
    refine ol_step rfl (step_alloc rfl rfl rfl rfl ze23 rfl hM0) ?_
    refine ol_nil ?_
    refine seq_pick 34 [(0, _), (1, _), (5, _)] [(5, _)] rfl ⟨rfl, rfl, rfl, trivial⟩ ⟨rfl, trivial⟩ ?_
    refine code_seq ?_
    refine code_nilown 5 0 100 22 23 hM0 rfl rfl rfl rfl ?_
    refine code_ops _ rfl ?_
    refine ol_step rfl (step_nil rfl rfl rfl rfl rfl 3 hM0) ?_
    refine ol_nil ?_
    refine seq_pick 34 [(0, _), (1, _), (5, _), (6, _)] [(5, _), (6, _), (100, _)] rfl ⟨rfl, rfl, rfl, rfl, trivial⟩ ⟨rfl, rfl, rfl, trivial⟩ ?_
    refine code_seq ?_
    refine code_seq ?_
    refine code_ops _ rfl ?_
    refine ol_pure rfl rfl rfl (pure_move rfl rfl) ?_
    refine ol_pure rfl rfl rfl (pure_lenm rfl Try.underlying23 rfl) ?_
    refine ol_pure rfl rfl rfl (pure_move rfl rfl) ?_
    refine ol_nil ?_
    refine seq_pick 34 [(0, _), (5, _), (6, _), (12, _), (13, _), (14, _)] [(5, _), (6, _), (100, _)] rfl ⟨rfl, rfl, rfl, rfl, rfl, rfl, trivial⟩ ⟨rfl, rfl, rfl, trivial⟩ ?_
    refine code_block ?_
    refine code_loopM (fun zm zs => ∃ i : Nat, zm = l.length - i ∧ (i ≤ l.length) ∧ zs = ⟨34, [(0, .v .mx (letters a)), (5, .pbox 5 0), (6, .own 6), (12, .v .mx (intss l)), (13, .v .pl (int l.length)), (14, .v .pl (int i))], [(5, .box 23 [.own 100]), (6, .arr 3 ((ints0 i).map int)), (100, .arr 22 ((keysP a (l.take i)).map ints))]⟩) (loop_init (n := 34) (l := [(0, _), (5, _), (6, _), (12, _), (13, _), (14, _)]) (o' := [(5, _), (6, _), (100, _)]) rfl ⟨rfl, rfl, rfl, rfl, rfl, rfl, trivial⟩ ⟨rfl, rfl, rfl, trivial⟩ ?_) ?_
    · exact ⟨_, 0, rfl, Nat.zero_le _, rfl⟩
    · rintro zm zs ⟨i, rfl, hL1_0, rfl⟩
      refine code_seq ?_
      refine code_ops _ rfl ?_
      refine ol_pure rfl rfl rfl (pure_lss rfl rfl rfl) ?_
      refine ol_nil ?_
      refine seq_pick 34 [(0, _), (5, _), (6, _), (12, _), (13, _), (14, _), (15, _)] [(5, _), (6, _), (100, _)] rfl ⟨rfl, rfl, rfl, rfl, rfl, rfl, rfl, trivial⟩ ⟨rfl, rfl, rfl, trivial⟩ ?_
      refine code_seq ?_
      refine code_cond rfl (fun h2 => ?_) (fun h2 => ?_)
      · try simp only [decide_eq_true_eq, decide_eq_false_iff_not, Bool.not_eq_true', Bool.not_eq_false', Bool.and_eq_true, Bool.or_eq_true, Bool.and_eq_false_iff, List.length_map, Int.toNat_natCast] at h2
        refine code_skip ?_
        refine seq_pick 34 [(0, _), (5, _), (6, _), (12, _), (13, _), (14, _)] [(5, _), (6, _), (100, _)] rfl ⟨rfl, rfl, rfl, rfl, rfl, rfl, trivial⟩ ⟨rfl, rfl, rfl, trivial⟩ ?_
        refine code_seq ?_
        refine code_block ?_
        refine code_seq ?_
        refine code_ops _ rfl ?_
        refine ol_pure rfl rfl rfl (pure_move rfl rfl) ?_
        first | refine ol_pure rfl rfl rfl (pure_indexn rfl Try.underlying23 sz22 rfl rfl (by omega) (fun _ => rfl)) ?_ | refine ol_pure rfl rfl rfl (pure_indexm rfl Try.underlying23 sz22 rfl rfl (by omega) (fun _ => rfl)) ?_
        refine ol_pure rfl rfl rfl (pure_load rfl ag22 rfl rfl) ?_
        refine ol_pure rfl rfl rfl (pure_assign rfl rfl) ?_
        refine ol_pure rfl rfl rfl (pure_assign rfl rfl) ?_
        refine ol_nil ?_
        refine seq_pick 34 [(0, _), (5, _), (6, _), (7, _), (8, _), (12, _), (13, _), (14, _)] [(5, _), (6, _), (100, _)] rfl ⟨rfl, rfl, rfl, rfl, rfl, rfl, rfl, rfl, trivial⟩ ⟨rfl, rfl, rfl, trivial⟩ ?_
        refine code_seq ?_
        refine code_draw mixed (by kernel_rfl) _ rfl ?_
        refine dl_pure rfl rfl rfl (pure_load_box rfl ag23 rfl rfl rfl) ?_
        refine dl_pure rfl rfl rfl (pure_move rfl rfl) ?_
        refine dl_pure rfl rfl rfl (pure_move rfl rfl) ?_
        refine dl_pure rfl rfl rfl (pure_call rfl rfl rfl (key_call hval (hll.get i) (by omega)) hM0) ?_
        refine dl_pure rfl rfl rfl (pure_lit rfl Try.underlying23 el22 rfl rfl rfl rfl hM0) ?_
        refine dl_tails (by kernel_rfl) ?_
        refine tl_step rfl (step_append rfl rfl rfl rfl Try.underlying23 el22 rfl rfl hM0 (src_pl rfl (one_len (by rfl))) (by simp only [keysP, List.length_map, List.length_append, List.length_cons, List.length_nil, List.length_take]; omega) (by simp only [keysP, List.length_map, List.length_append, List.length_cons, List.length_nil, List.length_take]; omega)) ?_
        refine tl_step rfl (step_store_box_own rfl rfl rfl sz23 rfl rfl rfl rfl rfl hM0) ?_
        refine tl_nil ?_
        refine seq_pick 34 [(0, _), (5, _), (6, _), (7, _), (12, _), (13, _), (14, _)] [(5, _), (6, _), (100, _)] rfl ⟨rfl, rfl, rfl, rfl, rfl, rfl, rfl, trivial⟩ ⟨rfl, rfl, rfl, trivial⟩ ?_
        refine code_ops _ rfl ?_
        refine ol_pure rfl rfl rfl (pure_move rfl rfl) ?_
        refine ol_pure rfl rfl rfl (pure_move rfl rfl) ?_
        refine ol_pure rfl rfl rfl (pure_lit rfl Try.underlying22 el3 rfl rfl rfl rfl hM0) ?_
        refine ol_step rfl (step_append rfl rfl rfl rfl Try.underlying22 el3 rfl rfl hM0 (src_pl rfl (one_len (by rfl))) (by simp only [ints0, List.length_map, List.length_append, List.length_cons, List.length_nil, List.length_range]; omega) (by simp only [ints0, List.length_map, List.length_append, List.length_cons, List.length_nil, List.length_range]; omega)) ?_
        refine ol_pure rfl rfl rfl (pure_assign rfl rfl) ?_
        refine ol_nil ?_
        refine blockQ_normal ?_
        refine seq_pick 34 [(0, _), (5, _), (6, _), (12, _), (13, _), (14, _)] [(5, _), (6, _), (100, _)] rfl ⟨rfl, rfl, rfl, rfl, rfl, rfl, trivial⟩ ⟨rfl, rfl, rfl, trivial⟩ ?_
        refine code_ops _ rfl ?_
        refine ol_pure rfl rfl rfl (pure_addi rfl rfl rfl (by omega)) ?_
        refine ol_pure rfl rfl rfl (pure_move rfl rfl) ?_
        refine ol_nil ?_
        refine loop_next (n := 34) (l := [(0, _), (5, _), (6, _), (12, _), (13, _), (14, _)]) (o' := [(5, _), (6, _), (100, _)]) rfl ⟨rfl, rfl, rfl, rfl, rfl, rfl, trivial⟩ ⟨rfl, rfl, rfl, trivial⟩ ?_   -- loop 1 end 1
        exact ⟨_, ⟨i + 1, rfl, by omega, by rw [ints0_succ, keysP_succ (by omega), List.map_append, List.map_append]; rfl⟩, by omega⟩
      · try simp only [decide_eq_true_eq, decide_eq_false_iff_not, Bool.not_eq_true', Bool.not_eq_false', Bool.and_eq_true, Bool.or_eq_true, Bool.and_eq_false_iff, List.length_map, Int.toNat_natCast] at h2
        obtain rfl : i = l.length := by omega
        rw [List.take_length]
        refine code_exit ?_
        refine seqQ_exit ?_
        refine loopM_exit ?_
        refine blockQ_same ?_
        refine seq_pick 34 [(5, _), (6, _)] [(5, _), (6, _), (100, _)] rfl ⟨rfl, rfl, trivial⟩ ⟨rfl, rfl, rfl, trivial⟩ ?_
        refine code_seq ?_
        refine code_frz 34 [(5, _), (6, _)] [(6, _)] hM0 rfl ⟨.inr ⟨_, _, rfl, rfl, rfl⟩, .inl rfl, trivial⟩ ⟨rfl, trivial⟩ ?_
        refine code_ops _ rfl ?_
        refine ol_pure rfl rfl rfl (pure_move rfl rfl) ?_
        refine ol_pure rfl rfl rfl (pure_func rfl rfl) ?_
        refine ol_step rfl (step_sort (β := Int) (enc := fun z => .int .i64 z) (cf := cmpS (keysP a l)) (p := fun z => 0 ≤ z ∧ z < l.length) (l := ints0 l.length) sorts_slices rfl rfl rfl rfl rfl rfl rfl (fun _ => rfl) sz3 (fun z hz => by have := ints0_mem.1 hz; omega) (fun x y hx hy => sortcmp_call hks (by rw [keysP_len]; exact hx) (by rw [keysP_len]; exact hy)) (sortcmp_callable) (fun x _ => cmpS_irr _ x) (fun x y z _ _ _ => cmpS_trans) (fun x y _ _ => cmpS_tot) (by simp [ints0]; omega) hM0) ?_
        refine ol_nil ?_
        refine seq_pick 34 [(6, _)] [(6, _)] rfl ⟨rfl, trivial⟩ ⟨rfl, trivial⟩ ?_
        refine code_seq ?_
        refine code_ops _ rfl ?_
        refine ol_pure rfl rfl rfl (pure_move rfl rfl) ?_
        refine ol_pure rfl rfl rfl (pure_assign rfl rfl) ?_
        refine ol_nil ?_
        refine seq_pick 34 [(4, _)] [(6, _)] rfl ⟨rfl, trivial⟩ ⟨rfl, trivial⟩ ?_
        refine code_ret ?_
        refine end_ret rfl ?_   -- end 2
        rw [if_pos hval]
        rw [sort_same hval]
end Go.Proofs.Ytcimmcjnkphagaa
