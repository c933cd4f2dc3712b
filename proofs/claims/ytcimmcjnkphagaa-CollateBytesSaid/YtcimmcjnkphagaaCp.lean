/-
  Contracts of the program's Sort.
-/
import Derived.Test.YtcimmcjnkphagaaCk
import Derived.Test.YtcimmcjnkphagaaPl
namespace Go.Proofs.Ytcimmcjnkphagaa
open Go.Am Go.Wb
set_option linter.unusedVariables false
set_option linter.unusedSimpArgs false
theorem fn50 : Fn1 Try.prog 50 Try.f50.ntmps 5 (Try.f50.body.getD .skip) := ⟨Try.f50, Try.func50, rfl, rfl, rfl, by kernel_rfl⟩
set_option maxRecDepth 100000 in
set_option maxHeartbeats 2000000 in
theorem sortcmp_call {ks : List (List Int)} {x y : Int} (hk : shortK ks) (hx : 0 ≤ x ∧ x < ks.length) (hy : 0 ≤ y ∧ y < ks.length) : CallF Try.prog 50 [int x, int y, .pc [intss ks] 0] (.p (int (cmpS ks x y))) := by
  refine callF_of_code fn50 (Nat.le_of_ble_eq_true rfl) fun w0 M0 hM0 => ?_
  refine code_seq ?_
  refine code_ops _ rfl ?_
  refine ol_pure rfl rfl rfl (pure_assign rfl rfl) ?_
  refine ol_nil ?_
  refine seq_pick 20 [(0, _), (1, _), (2, _)] [] rfl ⟨rfl, rfl, rfl, trivial⟩ trivial ?_
  refine code_seq ?_
  refine code_draw mixed (by kernel_rfl) _ rfl ?_
  refine dl_pure rfl rfl rfl (pure_load rfl ag23 rfl rfl) ?_
  refine dl_pure rfl rfl rfl (pure_move rfl rfl) ?_
  first | refine dl_pure rfl rfl rfl (pure_indexn rfl Try.underlying23 sz22 rfl rfl (by omega) (fun _ => rfl)) ?_ | refine dl_pure rfl rfl rfl (pure_indexm rfl Try.underlying23 sz22 rfl rfl (by omega) (fun _ => rfl)) ?_
  refine dl_pure rfl rfl rfl (pure_load rfl ag22 rfl rfl) ?_
  refine dl_pure rfl rfl rfl (pure_load rfl ag23 rfl rfl) ?_
  refine dl_pure rfl rfl rfl (pure_move rfl rfl) ?_
  first | refine dl_pure rfl rfl rfl (pure_indexn rfl Try.underlying23 sz22 rfl rfl (by omega) (fun _ => rfl)) ?_ | refine dl_pure rfl rfl rfl (pure_indexm rfl Try.underlying23 sz22 rfl rfl (by omega) (fun _ => rfl)) ?_
  refine dl_pick 20 [(0, _), (1, _), (9, _), (12, _)] [] rfl rfl ⟨rfl, rfl, rfl, rfl, trivial⟩ ?_
  refine dl_pure rfl rfl rfl (pure_load rfl ag22 rfl rfl) ?_
  refine dl_pure rfl rfl rfl (pure_call rfl rfl rfl (scompare_call (shortK.get hk _) (shortK.get hk _)) hM0) ?_
  refine dl_pure rfl rfl rfl (pure_move rfl rfl) ?_
  refine dl_pure rfl rfl rfl (pure_move rfl rfl) ?_
  refine dl_pure rfl rfl rfl (pure_call rfl rfl rfl (cmp_call) hM0) ?_
  refine dl_pure rfl rfl rfl (pure_lit rfl Try.underlying22 el3 rfl rfl rfl rfl hM0) ?_
  refine dl_pure rfl rfl rfl (pure_call rfl rfl rfl (or_call (l := [order (ks.getD x.toNat default) (ks.getD y.toNat default), cmpI x y]) (Nat.le_of_ble_eq_true rfl)) hM0) ?_
  refine dl_pure rfl rfl rfl (pure_assign rfl rfl) ?_
  refine dl_nil ?_
  refine seq_pick 20 [(5, _)] [] rfl ⟨rfl, trivial⟩ trivial ?_
  refine code_ret ?_
  refine end_ret rfl ?_   -- end 1
  rfl
end Go.Proofs.Ytcimmcjnkphagaa
