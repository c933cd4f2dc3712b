/-
  Contracts of the program's alphabets.
-/
import Derived.Test.YtcimmcjnkphagaaTy
import Derived.Test.YtcimmcjnkphagaaPf
import Derived.Test.YtcimmcjnkphagaaLay
import Derived.Shelf.Small.Strs
namespace Go.Proofs.Ytcimmcjnkphagaa
open Go.Am Go.Wb Go.Shelf Go.RowKit
set_option linter.unusedVariables false
set_option linter.unusedSimpArgs false

theorem callF_sc {P : Program} {f : FuncId} (hc : Callable P f) {zs : List Value} {r : RV} (h : ∀ w : World, Calls P f zs.toArray w fun e w' => ∃ v, e = .returned v ∧ Am.Below w.heap.size w w' ∧ RVok P w' (fun b => b < w.heap.size) w.heap.size v r) : CallF P f (zs.map .sc) r :=
  ⟨hc, fun w vs hv hr => by
    have : vs = zs := by
      apply List.ext_getElem
      · simpa using hv
      · intro j h1 h2
        have := hr j (.sc zs[j]) (by simp [List.getElem?_eq_getElem h2])
        rw [List.getD_eq_getElem?_getD, List.getElem?_eq_getElem h1, Option.getD_some] at this
        generalize vs[j] = u at this ⊢
        generalize zs[j] = u' at this ⊢
        cases this; rfl
    subst this
    exact h w⟩
theorem indexByte_call {s : List UInt8} {c : UInt8} : CallF Try.prog 79 [sbytes s, byte c] (.p (int (Lib.indexByte s c))) :=
  callF_sc (zs := [.string ⟨s.toArray⟩, .int .u8 c.toNat]) ⟨Try.f79, Try.func79, by kernel_rfl, by kernel_rfl⟩ fun w => (Any.strings_IndexByte Try.lays137 ⟨s.toArray⟩ c.toNat w).mono fun e w' ⟨h1, h2⟩ => by
    subst h2
    refine ⟨_, h1, .refl _ _, ?_⟩
    have e1 : ((c.toNat : Int).toNat.toUInt8) = c := by simp
    rw [e1]
    exact .sc _ rfl
theorem fn55 : Fn1 Try.prog 55 Try.f55.ntmps 6 (Try.f55.body.getD .skip) := ⟨Try.f55, Try.func55, rfl, rfl, rfl, by kernel_rfl⟩
set_option maxRecDepth 100000 in
theorem within_call {n low high : Int} : CallF Try.prog 55 [int n, int low, int high] (.p (bool (decide (low ≤ n) && decide (n ≤ high)))) := by
  refine callF_of_code fn55 (Nat.le_of_ble_eq_true rfl) fun w0 M0 hM0 => ?_
  refine code_seq ?_
  refine code_ops _ rfl ?_
  refine ol_pure rfl rfl rfl (pure_assign rfl rfl) ?_
  refine ol_nil ?_
  refine seq_pick 15 [(0, _), (1, _), (2, _)] [] rfl ⟨rfl, rfl, rfl, trivial⟩ trivial ?_
  refine code_seq ?_
  refine code_ops _ rfl ?_
  refine ol_pure rfl rfl rfl (pure_move rfl rfl) ?_
  refine ol_pure rfl rfl rfl (pure_move rfl rfl) ?_
  refine ol_pure rfl rfl rfl (pure_leq rfl rfl rfl) ?_
  refine ol_pure rfl rfl rfl (pure_move rfl rfl) ?_
  refine ol_guard rfl (fun h1 => ?_) (fun h1 => ?_)
  · have h1' := h1; try simp only [decide_eq_true_eq, decide_eq_false_iff_not, Bool.not_eq_true', Bool.not_eq_false', Bool.and_eq_true, Bool.or_eq_true, Bool.and_eq_false_iff, List.length_map, Int.toNat_natCast] at h1'
    refine ol_pure_g rfl rfl h1 rfl rfl (pure_move rfl rfl) ?_
    refine ol_pure_g rfl rfl h1 rfl rfl (pure_move rfl rfl) ?_
    refine ol_pure_g rfl rfl h1 rfl rfl (pure_leq rfl rfl rfl) ?_
    refine ol_pure rfl rfl rfl (pure_pick_t rfl rfl h1 rfl) ?_
    refine ol_pure rfl rfl rfl (pure_assign rfl rfl) ?_
    refine ol_nil ?_
    refine seq_pick 15 [(6, _)] [] rfl ⟨rfl, trivial⟩ trivial ?_
    refine code_ret ?_
    refine end_ret rfl ?_   -- end 1
    simp_all <;> (intros; omega)
  · have h1' := h1; try simp only [decide_eq_true_eq, decide_eq_false_iff_not, Bool.not_eq_true', Bool.not_eq_false', Bool.and_eq_true, Bool.or_eq_true, Bool.and_eq_false_iff, List.length_map, Int.toNat_natCast] at h1'
    refine ol_skip_g rfl rfl h1 rfl rfl ?_
    refine ol_skip_g rfl rfl h1 rfl rfl ?_
    refine ol_skip_g rfl rfl h1 rfl rfl ?_
    refine ol_pure rfl rfl rfl (pure_pick_f rfl rfl h1 rfl) ?_
    refine ol_pure rfl rfl rfl (pure_assign rfl rfl) ?_
    refine ol_nil ?_
    refine seq_pick 15 [(6, _)] [] rfl ⟨rfl, trivial⟩ trivial ?_
    refine code_ret ?_
    refine end_ret rfl ?_   -- end 2
    simp_all <;> (intros; omega)
theorem fn63 : Fn1 Try.prog 63 Try.f63.ntmps 2 (Try.f63.body.getD .skip) := ⟨Try.f63, Try.func63, rfl, rfl, rfl, by kernel_rfl⟩
set_option maxRecDepth 100000 in
set_option maxHeartbeats 2000000 in
theorem aplain_call {s : List UInt8} (hs : s.length ≤ 1099511627776) : CallF Try.prog 63 [sbytes s] (.p (bool (plainT s))) := by
  refine callF_of_code fn63 (Nat.le_of_ble_eq_true rfl) fun w0 M0 hM0 => ?_
  refine code_seq ?_
  refine code_ops _ rfl ?_
  refine ol_pure rfl rfl rfl (pure_assign rfl rfl) ?_
  refine ol_nil ?_
  refine seq_pick 28 [(0, _)] [] rfl ⟨rfl, trivial⟩ trivial ?_
  refine code_seq ?_
  refine code_seq ?_
  refine code_ops _ rfl ?_
  refine ol_pure rfl rfl rfl (pure_move rfl rfl) ?_
  refine ol_pure rfl rfl rfl (pure_slen rfl Try.underlying9 rfl) ?_
  refine ol_pure rfl rfl rfl (pure_move rfl rfl) ?_
  refine ol_nil ?_
  refine seq_pick 28 [(0, _), (5, _), (6, _)] [] rfl ⟨rfl, rfl, rfl, trivial⟩ trivial ?_
  refine code_block ?_
  refine code_loopM (fun zm zs => ∃ k : Nat, zm = s.length - k ∧ (k ≤ s.length) ∧ ((s.take k).all (fun c => !resB c) = true) ∧ zs = ⟨28, [(0, .v .mx (sbytes s)), (5, .v .pl (int s.length)), (6, .v .pl (int k))], []⟩) (loop_init (n := 28) (l := [(0, _), (5, _), (6, _)]) (o' := []) rfl ⟨rfl, rfl, rfl, trivial⟩ trivial ?_) ?_
  · exact ⟨_, 0, rfl, Nat.zero_le _, rfl, rfl⟩
  · rintro zm zs ⟨k, rfl, hL1_0, hL1_1, rfl⟩
    refine code_seq ?_
    refine code_ops _ rfl ?_
    refine ol_pure rfl rfl rfl (pure_lss rfl rfl rfl) ?_
    refine ol_nil ?_
    refine seq_pick 28 [(0, _), (5, _), (6, _), (7, _)] [] rfl ⟨rfl, rfl, rfl, rfl, trivial⟩ trivial ?_
    refine code_seq ?_
    refine code_cond rfl (fun h1 => ?_) (fun h1 => ?_)
    · try simp only [decide_eq_true_eq, decide_eq_false_iff_not, Bool.not_eq_true', Bool.not_eq_false', Bool.and_eq_true, Bool.or_eq_true, Bool.and_eq_false_iff, List.length_map, Int.toNat_natCast] at h1
      refine code_skip ?_
      refine seq_pick 28 [(0, _), (5, _), (6, _)] [] rfl ⟨rfl, rfl, rfl, trivial⟩ trivial ?_
      refine code_seq ?_
      refine code_block ?_
      refine code_seq ?_
      refine code_ops _ rfl ?_
      refine ol_pure rfl rfl rfl (pure_move rfl rfl) ?_
      refine ol_pure rfl rfl rfl (pure_assign rfl rfl) ?_
      refine ol_nil ?_
      refine seq_pick 28 [(0, _), (3, _), (5, _), (6, _)] [] rfl ⟨rfl, rfl, rfl, rfl, trivial⟩ trivial ?_
      refine code_cut (fun zs => ∃ z : Bool, (resB (s.getD k 0) = z) ∧ zs = ⟨28, [(0, .v .mx (sbytes s)), (5, .v .pl (int s.length)), (6, .v .pl (int k)), (19, .v .pl (bool z))], []⟩) ?_ ?_
      · skip
        refine code_ops _ rfl ?_
        refine ol_pure rfl rfl rfl (pure_move rfl rfl) ?_
        refine ol_pure rfl rfl rfl (pure_move rfl rfl) ?_
        refine ol_pure rfl rfl rfl (pure_sindex rfl Try.underlying9 rfl rfl (by omega)) ?_
        refine ol_pure rfl rfl rfl (pure_lss rfl rfl rfl) ?_
        refine ol_pure rfl rfl rfl (pure_move rfl rfl) ?_
        refine ol_guard rfl (fun h2 => ?_) (fun h2 => ?_)
        · have h2' := h2; try simp only [decide_eq_true_eq, decide_eq_false_iff_not, Bool.not_eq_true', Bool.not_eq_false', Bool.and_eq_true, Bool.or_eq_true, Bool.and_eq_false_iff, List.length_map, Int.toNat_natCast] at h2'
          refine ol_skip_g rfl rfl h2 rfl rfl ?_
          refine ol_skip_g rfl rfl h2 rfl rfl ?_
          refine ol_pick 28 [(0, _), (5, _), (6, _), (13, _), (14, _), (15, _)] [] rfl ⟨rfl, rfl, rfl, rfl, rfl, rfl, trivial⟩ trivial ?_
          refine ol_skip_g rfl rfl h2 rfl rfl ?_
          refine ol_skip_g rfl rfl h2 rfl rfl ?_
          refine ol_skip_g rfl rfl h2 rfl rfl ?_
          refine ol_pure rfl rfl rfl (pure_pick_t rfl rfl h2 rfl) ?_
          refine ol_nil ?_
          refine cut_next (n := 28) (l := [(0, _), (5, _), (6, _), (19, _)]) (o' := []) rfl ⟨rfl, rfl, rfl, rfl, trivial⟩ trivial ?_   -- cut 5 end 1
          exact ⟨_, resB_lt h2', rfl⟩
        · have h2' := h2; try simp only [decide_eq_true_eq, decide_eq_false_iff_not, Bool.not_eq_true', Bool.not_eq_false', Bool.and_eq_true, Bool.or_eq_true, Bool.and_eq_false_iff, List.length_map, Int.toNat_natCast] at h2'
          refine ol_pure_g rfl rfl h2 rfl rfl (pure_move rfl rfl) ?_
          refine ol_pure_g rfl rfl h2 rfl rfl (pure_move rfl rfl) ?_
          refine ol_pick 28 [(0, _), (5, _), (6, _), (13, _), (14, _), (15, _)] [] rfl ⟨rfl, rfl, rfl, rfl, rfl, rfl, trivial⟩ trivial ?_
          refine ol_pure_g rfl rfl h2 rfl rfl (pure_sindex rfl Try.underlying9 rfl rfl (by omega)) ?_
          refine ol_pure_g rfl rfl h2 rfl rfl (pure_call rfl rfl rfl (indexByte_call) hM0) ?_
          refine ol_pure_g rfl rfl h2 rfl rfl (pure_geq rfl rfl rfl) ?_
          refine ol_pure rfl rfl rfl (pure_pick_f rfl rfl h2 rfl) ?_
          refine ol_nil ?_
          refine cut_next (n := 28) (l := [(0, _), (5, _), (6, _), (19, _)]) (o' := []) rfl ⟨rfl, rfl, rfl, rfl, trivial⟩ trivial ?_   -- cut 5 end 2
          exact ⟨_, resB_ib h2', rfl⟩
      · rintro zs ⟨z, hC5_0, rfl⟩
        refine code_cond rfl (fun h3 => ?_) (fun h3 => ?_)
        · try simp only [decide_eq_true_eq, decide_eq_false_iff_not, Bool.not_eq_true', Bool.not_eq_false', Bool.and_eq_true, Bool.or_eq_true, Bool.and_eq_false_iff, List.length_map, Int.toNat_natCast] at h3
          refine code_seq ?_
          refine code_ops _ rfl ?_
          refine ol_pure rfl rfl rfl (pure_assign rfl rfl) ?_
          refine ol_nil ?_
          refine seq_pick 28 [(2, _)] [] rfl ⟨rfl, trivial⟩ trivial ?_
          refine code_ret ?_
          refine blockQ_ret ?_
          refine seqQ_ret ?_
          refine loopM_ret ?_
          refine blockQ_ret ?_
          refine seqQ_ret ?_
          refine end_ret rfl ?_   -- end 1
          rw [plainT_hit (k := k) (by omega) (by rw [hC5_0]; assumption)]
        · try simp only [decide_eq_true_eq, decide_eq_false_iff_not, Bool.not_eq_true', Bool.not_eq_false', Bool.and_eq_true, Bool.or_eq_true, Bool.and_eq_false_iff, List.length_map, Int.toNat_natCast] at h3
          refine code_skip ?_
          refine blockQ_normal ?_
          refine seq_pick 28 [(0, _), (5, _), (6, _)] [] rfl ⟨rfl, rfl, rfl, trivial⟩ trivial ?_
          refine code_ops _ rfl ?_
          refine ol_pure rfl rfl rfl (pure_addi rfl rfl rfl (by omega)) ?_
          refine ol_pure rfl rfl rfl (pure_move rfl rfl) ?_
          refine ol_nil ?_
          refine loop_next (n := 28) (l := [(0, _), (5, _), (6, _)]) (o' := []) rfl ⟨rfl, rfl, rfl, trivial⟩ trivial ?_   -- loop 1 end 1
          exact ⟨_, ⟨k + 1, rfl, by omega, plainT_step (by omega) hL1_1 (by rw [hC5_0]; assumption), rfl⟩, by omega⟩
    · try simp only [decide_eq_true_eq, decide_eq_false_iff_not, Bool.not_eq_true', Bool.not_eq_false', Bool.and_eq_true, Bool.or_eq_true, Bool.and_eq_false_iff, List.length_map, Int.toNat_natCast] at h1
      refine code_exit ?_
      refine seqQ_exit ?_
      refine loopM_exit ?_
      refine blockQ_same ?_
      refine seq_pick 28 [(0, _)] [] rfl ⟨rfl, trivial⟩ trivial ?_
      refine code_seq ?_
      refine code_ops _ rfl ?_
      refine ol_pure rfl rfl rfl (pure_move rfl rfl) ?_
      refine ol_pure rfl rfl rfl (pure_sneq rfl rfl rfl) ?_
      refine ol_pure rfl rfl rfl (pure_move rfl rfl) ?_
      refine ol_guard rfl (fun h4 => ?_) (fun h4 => ?_)
      · have h4' := h4; try simp only [decide_eq_true_eq, decide_eq_false_iff_not, Bool.not_eq_true', Bool.not_eq_false', Bool.and_eq_true, Bool.or_eq_true, Bool.and_eq_false_iff, List.length_map, Int.toNat_natCast] at h4'
        refine ol_pure_g rfl rfl h4 rfl rfl (pure_move rfl rfl) ?_
        refine ol_pure_g rfl rfl h4 rfl rfl (pure_slen rfl Try.underlying9 rfl) ?_
        refine ol_pure_g rfl rfl h4 rfl rfl (pure_leq rfl rfl rfl) ?_
        refine ol_pure rfl rfl rfl (pure_pick_t rfl rfl h4 rfl) ?_
        refine ol_pure rfl rfl rfl (pure_assign rfl rfl) ?_
        refine ol_nil ?_
        refine seq_pick 28 [(2, _)] [] rfl ⟨rfl, trivial⟩ trivial ?_
        refine code_ret ?_
        refine end_ret rfl ?_   -- end 2
        rw [plainT_end (k := k) (by omega) hL1_1, decide_eq_true (p := 1 ≤ s.length) (by cases s with | nil => exact absurd rfl (by assumption) | cons x y => simp), Bool.true_and]; congr 4; apply propext; omega
      · have h4' := h4; try simp only [decide_eq_true_eq, decide_eq_false_iff_not, Bool.not_eq_true', Bool.not_eq_false', Bool.and_eq_true, Bool.or_eq_true, Bool.and_eq_false_iff, List.length_map, Int.toNat_natCast] at h4'
        refine ol_skip_g rfl rfl h4 rfl rfl ?_
        refine ol_skip_g rfl rfl h4 rfl rfl ?_
        refine ol_skip_g rfl rfl h4 rfl rfl ?_
        refine ol_pure rfl rfl rfl (pure_pick_f rfl rfl h4 rfl) ?_
        refine ol_pure rfl rfl rfl (pure_assign rfl rfl) ?_
        refine ol_nil ?_
        refine seq_pick 28 [(2, _)] [] rfl ⟨rfl, trivial⟩ trivial ?_
        refine code_ret ?_
        refine end_ret rfl ?_   -- end 3
        rw [plainT_end (k := k) (by omega) hL1_1]; subst h4'; rfl
end Go.Proofs.Ytcimmcjnkphagaa
