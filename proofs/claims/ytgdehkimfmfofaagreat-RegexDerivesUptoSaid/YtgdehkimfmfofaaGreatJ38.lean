/-
  Contracts: derivatives of the reference.
-/
import Derived.Test.YtgdehkimfmfofaaGreatJ37
import Derived.Test.YtgdehkimfmfofaaGreatJ22
set_option linter.unusedVariables false
set_option linter.unusedSimpArgs false
namespace Go.Proofs.YtgdehkimfmfofaaGreat
open Go.Am Go.Wb
set_option linter.unusedVariables false
set_option linter.unusedSimpArgs false
theorem mem_upto {l : List Int} {a : Int} {i : Nat} (h : ∀ j, j < i → ¬ l.getD j default = a) (hi : l.length ≤ i) : ¬ a ∈ l := fun hm => by
  obtain ⟨j, hj, e⟩ := List.getElem_of_mem hm
  exact h j (by omega) (by rw [getD_el hj]; exact e)
theorem mem_here {l : List Int} {a : Int} {i : Nat} (hi : i < l.length) (h : l.getD i default = a) : a ∈ l := by rw [← h, getD_el hi]; exact List.getElem_mem hi
theorem fn56 : FnC Tryz.prog 56 Tryz.f56.ntmps 4 25 3 (Tryz.f56.body.getD .skip) := ⟨Tryz.f56, Tryz.func56, rfl, rfl, rfl, by kernel_rfl, ag25, sz25⟩
set_option maxRecDepth 100000 in
set_option maxHeartbeats 8000000 in
theorem rder_call {a : Int} : ∀ (m : Nat) (r : Rx), r.size ≤ m → m ≤ 137438953472 → Nf r → dSz r ≤ 274877906944 → CallN Tryz.prog 56 [rx r, int a] (.p (rx (rder a r))) := by
  intro m
  induction m with
  | zero => intro r hr; have := size_pos r; omega
  | succ m ih =>
  intro r hr hm hn hds
  have hk := kids_len r
  have hs := syms_len r
  have hnk : ∀ x ∈ r.kids, Nf x := fun x hx => hn.kids hx
  have hdk : ∀ i, i < r.kids.length → (r.kind = 4 ∨ r.kind = 5 ∨ (r.kind = 3 ∧ ∀ j, j < i → accR (r.kids.getD j default) = true)) → dSz (r.kids.getD i default) ≤ dSz r := fun i hi hq => by
    rcases hq with h4 | h5 | ⟨h3, ha⟩
    · exact (dSz_4 h4 hi).1
    · have h0 : i = 0 := by obtain ⟨y, e, _⟩ := hn.k5 h5; rw [e] at hi; have : i < 1 := hi; omega
      subst h0
      have := dSz_5 h5 hi; omega
    · have := dSz_3 h3 hi ha; omega
  have hkind := hn.kinds
  have h01 : r.kind ≤ 2 → r.kids.length = 0 := fun h => by
    cases hn with
    | none => rfl
    | empty => rfl
    | set h => rfl
    | seq h1 h2 h3 => exact absurd h (by show ¬ (3 : Int) ≤ 2; decide)
    | alt h1 h2 h3 h4 h5 h6 => exact absurd h (by show ¬ (4 : Int) ≤ 2; decide)
    | star h1 h2 h3 => exact absurd h (by show ¬ (5 : Int) ≤ 2; decide)
  have h5k : r.kind = 5 → 0 < r.kids.length := fun h => by obtain ⟨y, e, _⟩ := hn.k5 h; rw [e]; exact Nat.one_pos
  rw [rx_eq r]
  refine callN_of_codeC fn56 (Nat.le_of_ble_eq_true rfl) fun w0 M0 hM0 => ?_
  refine xC tb hM0 2 [0,1] [] rfl ?_
  refine oP rfl (pure_box rfl rfl rfl hM0) ?_
  refine xA tb hM0 11 [1,2,4,13] [4] rfl ?_
  refine spC 13 rfl ?_ ?_ <;> intro h1 <;> try simp only [dq] at h1
  refine xA tb hM0 8 [1,2,4,5] [4] rfl ?_
  refine lp (fun zm zs => ∃ i : Nat, zm = r.syms.length - i ∧ (i ≤ r.syms.length) ∧ (∀ j, j < i → ¬ r.syms.getD j default = a) ∧ zs = ⟨93, [(1, .v .pl (int a)), (2, .v .pl (rpc r)), (4, .pbox 4 0), (5, .v .pl (int i))], [(4, .box 25 [.v .pl (.sc (.int .i64 0)), .v .pl (.sc (.slice none 0 0)), .v .pl (.sc (.slice none 0 0))])]⟩) ?_ ?_
  exact ⟨_, 0, rfl, Nat.zero_le _, fun j hj => absurd hj (by omega), rfl⟩
  rintro zm zs ⟨i, rfl, hL1_0, hL1_1, rfl⟩
  refine xA tb hM0 6 [1,2,4,5,14,16] [4] rfl ?_
  refine oP rfl (pure_lenm rfl Tryz.underlying22 rfl) ?_
  refine xA tb hM0 3 [1,2,4,5,18] [4] rfl ?_
  refine spC 18 rfl ?_ ?_ <;> intro h2 <;> try simp only [dq] at h2
  refine xA tb hM0 10 [1,2,4,5,22,23] [4] rfl ?_
  refine oP rfl (pure_ix rfl Tryz.underlying22 sz3 rfl rfl (by omega) (fun _ => rfl)) ?_
  refine xA tb hM0 5 [1,2,4,5,27] [4] rfl ?_
  refine spC 27 rfl ?_ ?_ <;> intro h3 <;> try simp only [dq] at h3
  refine xA tb hM0 3 [4] [4] rfl ?_
  refine oP rfl (pure_norm (pure_build rfl pl25 ze25 rfl rfl rfl) rfl) ?_
  refine xA tb hM0 10 [] [] rfl ?_
  refine endC_ret rfl ?_; rotate_left
  refine xA tb hM0 6 [1,2,4,19] [4] rfl ?_
  refine oP rfl (pure_addi rfl rfl rfl (by omega)) ?_
  refine xA tb hM0 2 [1,2,4,5] [4] rfl ?_
  refine nx ?_
  exact ⟨_, ⟨i + 1, rfl, by omega, all_step hL1_1 (by omega), rfl⟩, by omega⟩
  refine xA tb hM0 8 [4] [4] rfl ?_
  refine oP rfl (pure_norm (pure_build rfl pl25 ze25 rfl rfl rfl) rfl) ?_
  refine xA tb hM0 5 [] [] rfl ?_
  refine endC_ret rfl ?_; rotate_left
  refine xA tb hM0 16 [1,2,4,6,32] [4] rfl ?_
  refine spC 32 rfl ?_ ?_ <;> intro h4 <;> try simp only [dq] at h4
  refine xA tb hM0 2 [1,2,4,6] [4] rfl ?_
  refine code_draw1 (n := 93) (o2 := [(4, .box 25 [.v .pl (.sc (.int .i64 0)), .v .pl (.sc (.slice none 0 0)), .v .pl (.sc (.slice none 0 0))]), (41, .arr 25 (([(rder a (r.kids.getD 0 default))] : List Rx).map rx))]) 8 11 [(33, .v .pl (.sc (.slice none 0 0))), (34, .v .pl (.pc [int r.kind, ints r.syms, rxs r.kids] 2)), (35, .v .pl (rxs r.kids)), (36, .v .pl (.pc [int (r.kids.getD 0 default).kind, ints (r.kids.getD 0 default).syms, .sl (Rx.avs (r.kids.getD 0 default).kids)] 0)), (37, .v .pl (rx (r.kids.getD 0 default))), (38, .v .pl (int a)), (39, .v .pl (rx (rder a (r.kids.getD 0 default)))), (40, .v .pl (rxs [(rder a (r.kids.getD 0 default))])), (41, .own 41), (42, .v .pl (.agg [int r.kind, ints r.syms, rxs r.kids])), (43, .v .pl (.sl [(.agg [int r.kind, ints r.syms, rxs r.kids])])), (1, .v .pl (int a)), (2, .v .pl (rpc r)), (4, .pbox 4 0), (6, .v .pl (.sc (.slice none 0 0)))] mixed (by kernel_rfl) (by kernel_rfl) (by kernel_rfl) rfl (by kernel_rfl) (fun t d h => h) rfl ?_ ?_ ?_ ?_ ?_
  · intro i hi
    rcases (by omega : i = 0 ∨ i = 1 ∨ i = 2 ∨ i = 3 ∨ i = 4 ∨ i = 5 ∨ i = 6 ∨ i = 7 ∨ i = 8 ∨ i = 9 ∨ i = 10) with rfl | rfl | rfl | rfl | rfl | rfl | rfl | rfl | rfl | rfl | rfl <;> exact ⟨_, _, rfl, rfl⟩
  · intro i o t d hi hia ho hd hG hn
    rcases (by omega : i = 0 ∨ i = 1 ∨ i = 2 ∨ i = 3 ∨ i = 4 ∨ i = 5 ∨ i = 6 ∨ i = 7 ∨ i = 9 ∨ i = 10) with rfl | rfl | rfl | rfl | rfl | rfl | rfl | rfl | rfl | rfl
    · injection (show some _ = some o from ho) with ho; subst ho; injection (show some _ = some t from hd) with hd; subst hd; injection (show some _ = some d from hG) with hG; subst hG
      exact pure_move rfl rfl
    · injection (show some _ = some o from ho) with ho; subst ho; injection (show some _ = some t from hd) with hd; subst hd; injection (show some _ = some d from hG) with hG; subst hG
      exact pure_field (cs := [int r.kind, ints r.syms, rxs r.kids]) (off := 0) rfl fd25_2 rfl
    · injection (show some _ = some o from ho) with ho; subst ho; injection (show some _ = some t from hd) with hd; subst hd; injection (show some _ = some d from hG) with hG; subst hG
      exact pure_load (cs := [int r.kind, ints r.syms, rxs r.kids]) (off := 2) rfl ag23 rfl rfl
    · injection (show some _ = some o from ho) with ho; subst ho; injection (show some _ = some t from hd) with hd; subst hd; injection (show some _ = some d from hG) with hG; subst hG
      exact pure_ix (f := rx) (l := r.kids) rfl Tryz.underlying23 sz25 rfl rfl (by have := h5k (by omega); omega) (fun _ => rfl)
    · injection (show some _ = some o from ho) with ho; subst ho; injection (show some _ = some t from hd) with hd; subst hd; injection (show some _ = some d from hG) with hG; subst hG
      exact pure_load_agg (cs := [int (r.kids.getD 0 default).kind, ints (r.kids.getD 0 default).syms, .sl (Rx.avs (r.kids.getD 0 default).kids)]) (off := 0) rfl ag25 sz25 rfl (Nat.le_of_ble_eq_true rfl)
    · injection (show some _ = some o from ho) with ho; subst ho; injection (show some _ = some t from hd) with hd; subst hd; injection (show some _ = some d from hG) with hG; subst hG
      exact pure_move rfl rfl
    · injection (show some _ = some o from ho) with ho; subst ho; injection (show some _ = some t from hd) with hd; subst hd; injection (show some _ = some d from hG) with hG; subst hG
      exact pure_callN rfl rfl rfl rfl (ih (r.kids.getD 0 default) (Nat.le_of_lt_succ (Nat.lt_of_lt_of_le (kid_lt (h5k (by omega))) hr)) (by omega) (hnk _ (kid_mem (h5k (by omega)))) (Nat.le_trans (hdk 0 (h5k (by omega)) (.inr (.inl (by omega)))) hds)) hM0
    · injection (show some _ = some o from ho) with ho; subst ho; injection (show some _ = some t from hd) with hd; subst hd; injection (show some _ = some d from hG) with hG; subst hG
      exact pure_lit rfl Tryz.underlying23 el25 rfl rfl rfl rfl hM0
    · injection (show some _ = some o from ho) with ho; subst ho; injection (show some _ = some t from hd) with hd; subst hd; injection (show some _ = some d from hG) with hG; subst hG
      exact pure_load_agg (cs := [int r.kind, ints r.syms, rxs r.kids]) (off := 0) rfl ag25 sz25 rfl (Nat.le_of_ble_eq_true rfl)
    · injection (show some _ = some o from ho) with ho; subst ho; injection (show some _ = some t from hd) with hd; subst hd; injection (show some _ = some d from hG) with hG; subst hG
      exact pure_lit rfl Tryz.underlying23 el25 rfl rfl rfl rfl hM0
  · intro i o t d hi hia ho hd hG hn
    rcases (by omega : i = 0 ∨ i = 1 ∨ i = 2 ∨ i = 3 ∨ i = 4 ∨ i = 5 ∨ i = 6 ∨ i = 7 ∨ i = 9 ∨ i = 10) with rfl | rfl | rfl | rfl | rfl | rfl | rfl | rfl | rfl | rfl
    · exact absurd hn (by decide)
    · exact absurd hn (by decide)
    · exact absurd hn (by decide)
    · exact absurd hn (by decide)
    · exact absurd hn (by decide)
    · exact absurd hn (by decide)
    · exact absurd hn (by decide)
    · exact absurd hn (by decide)
    · injection (show some _ = some o from ho) with ho; subst ho; injection (show some _ = some t from hd) with hd; subst hd; injection (show some _ = some d from hG) with hG; subst hG
      exact pure_load_agg (cs := [int r.kind, ints r.syms, rxs r.kids]) (off := 0) rfl ag25 sz25 rfl (Nat.le_of_ble_eq_true rfl)
    · injection (show some _ = some o from ho) with ho; subst ho; injection (show some _ = some t from hd) with hd; subst hd; injection (show some _ = some d from hG) with hG; subst hG
      exact pure_lit rfl Tryz.underlying23 el25 rfl rfl rfl rfl hM0
  · intro o X ho hXn hXG hXr
    have hXu : 33 ∈ looks _ o → X.lookup 33 = some (.v .pl (.sc (.slice none 0 0))) := fun h => (hXr 33 h).trans rfl
    have hXv : 40 ∈ looks _ o → X.lookup 40 = some (.v .pl (rxs [(rder a (r.kids.getD 0 default))])) := fun h => (hXr 40 h).trans rfl
    injection (show some _ = some o from ho) with ho'
    obtain ⟨s', g1, g2⟩ := step_apn (o := o) (f := rx) (l := [(rder a (r.kids.getD 0 default))]) (n := 93) (X := X) (o1 := [(4, .box 25 [.v .pl (.sc (.int .i64 0)), .v .pl (.sc (.slice none 0 0)), .v .pl (.sc (.slice none 0 0))])]) (o2 := [(4, .box 25 [.v .pl (.sc (.int .i64 0)), .v .pl (.sc (.slice none 0 0)), .v .pl (.sc (.slice none 0 0))]), (41, .arr 25 (([(rder a (r.kids.getD 0 default))] : List Rx).map rx))]) (t := 41) (u := 33) (v := 40) (by rw [← ho']; rfl) (by rw [← ho']; rfl) rfl hXn Tryz.underlying23 el25 (hXu (by rw [← ho']; decide)) (hXv (by rw [← ho']; decide)) (fun _ => rfl) (show (1 : Nat) * 56 ≤ 140737488355328 by decide) (show (1 : Nat) ≤ 4611686018427387904 by decide) (fun t' d h hne => all_stays (by rfl) (hXG t' d h) hne) rfl hM0
    exact ⟨41, _, s', by rw [← ho']; rfl, rfl, g1, g2⟩
  refine endL_of (n := 3) (by kernel_rfl) ?_
  refine ex_one (i := 11) (by kernel_rfl) rfl rfl (step_append rfl rfl rfl rfl Tryz.underlying23 el25 rfl rfl hM0 (src_pl rfl (one_len (by rfl))) (by first | (simp only [ll]; omega) | omega) (by first | (simp only [ll]; omega) | omega)) ?_
  refine ex_imp (imp_frz (l := [(4, _), (44, _)]) (o' := [(4, _)]) hM0 ⟨.inl rfl, .inr ⟨_, _, rfl, rfl, rfl⟩, trivial⟩ ⟨rfl, trivial⟩) ?_
  refine ex_one (i := 12) (by kernel_rfl) rfl rfl (st_pure rfl rfl (pure_callN rfl rfl rfl rfl (by have h := of_call 3 [(rder a (r.kids.getD 0 default)), r]; rw [show rxs [(rder a (r.kids.getD 0 default)), r] = .sl ((([(rder a (r.kids.getD 0 default))] : List Rx).map rx) ++ [(.agg [int r.kind, ints r.syms, rxs r.kids])]) from by rw [← rx_eq r]; rfl] at h; exact h) hM0)) ?_
  refine ex_one (i := 13) (by kernel_rfl) rfl rfl (step_store_box rfl rfl rfl sz25 rfl rfl rfl rfl (by decide) rfl rfl hM0) ?_
  refine ex_end (by kernel_rfl) ?_
  refine xD tb hM0 3 [] [] rfl ?_
  refine endC_ret rfl ?_; rotate_left
  refine xA tb hM0 4 [1,2,4,6] [4] rfl ?_
  refine code_slotown 6 25 hM0 rfl rfl ?_
  refine xK tb hM0 11 [1,2,4,6,7,8] [4,6] rfl ?_
  refine lp (fun zm zs => ∃ i : Nat, zm = r.kids.length - i ∧ (i ≤ r.kids.length) ∧ (∀ j, j < i → bfR r j = true) ∧ zs = ⟨93, [(1, .v .pl (int a)), (2, .v .pl (rpc r)), (4, .pbox 4 0), (6, .own 6), (7, .v .pl (bool (bfR r i))), (8, .v .pl (int i))], [(4, .box 25 [.v .pl (.sc (.int .i64 0)), .v .pl (.sc (.slice none 0 0)), .v .pl (.sc (.slice none 0 0))]), (6, .arr 25 ((dvL a r i).map rx))]⟩) ?_ ?_
  exact ⟨_, 0, rfl, Nat.zero_le _, fun j hj => absurd hj (by omega), by rw [bfR_0]; rfl⟩
  rintro zm zs ⟨i, rfl, hL2_0, hL2_1, rfl⟩
  have hok : bfR r i = true → i < r.kids.length → r.kind = 4 ∨ r.kind = 5 ∨ (r.kind = 3 ∧ ∀ j, j < i → accR (r.kids.getD j default) = true) := fun hb hi => by
    by_cases h3 : r.kind = 3
    · refine .inr (.inr ⟨h3, fun j hj => ?_⟩)
      rw [← bfR_3 h3]
      by_cases q : j + 1 = i
      · rw [q]; exact hb
      · exact hL2_1 (j + 1) (by omega)
    · have := h01; omega
  refine xA tb hM0 6 [1,2,4,6,7,8,46,48] [4,6] rfl ?_
  refine oP rfl (pure_lenm rfl Tryz.underlying23 rfl) ?_
  refine xA tb hM0 2 [1,2,4,6,7,8,51] [4,6] rfl ?_
  refine spO 51 rfl ?_ ?_ <;> intro h5' <;> try simp only [dq] at h5'
  refine xA tb hM0 4 [1,2,4,6,7,8,53] [4,6] rfl ?_
  refine spC 53 rfl ?_ ?_ <;> intro h6 <;> try simp only [dq] at h6
  refine xA tb hM0 10 [1,2,4,6,7,8,57,58] [4,6] rfl ?_
  refine oP rfl (pure_ix rfl Tryz.underlying23 sz25 rfl rfl (by omega) (fun _ => rfl)) ?_
  refine xA tb hM0 2 [1,2,4,6,7,8,60,61] [4,6] rfl ?_
  refine oP rfl (pure_callN rfl rfl rfl rfl (ih (r.kids.getD i default) (Nat.le_of_lt_succ (Nat.lt_of_lt_of_le (kid_lt (by omega)) hr)) (by omega) (hnk _ (kid_mem (by omega))) (Nat.le_trans (hdk i (by omega) (hok (by assumption) (by omega))) hds)) hM0) ?_
  refine xA tb hM0 4 [1,2,4,6,7,8,9] [4,6,9] rfl ?_
  refine ct (fun zs => zs = ⟨93, [(1, .v .pl (int a)), (2, .v .pl (rpc r)), (4, .pbox 4 0), (6, .own 6), (7, .v .pl (bool (bfR r (i + 1)))), (8, .v .pl (int i)), (9, .pbox 9 0)], [(4, .box 25 [.v .pl (.sc (.int .i64 0)), .v .pl (.sc (.slice none 0 0)), .v .pl (.sc (.slice none 0 0))]), (6, .arr 25 ((dvL a r i).map rx)), (9, .box 25 [.v .pl (int ((dvE a r i)).kind), .v .pl (ints ((dvE a r i)).syms), .v .pl (.sl (Rx.avs ((dvE a r i)).kids))])]⟩) ?_ ?_
  refine xA tb hM0 7 [1,2,4,6,7,8,9,65] [4,6,9] rfl ?_
  refine spC 65 rfl ?_ ?_ <;> intro h7 <;> try simp only [dq] at h7
  refine xA tb hM0 7 [1,2,4,6,8,9,10] [4,6,9] rfl ?_
  refine code_draw1 (n := 93) (o2 := [(4, .box 25 [.v .pl (.sc (.int .i64 0)), .v .pl (.sc (.slice none 0 0)), .v .pl (.sc (.slice none 0 0))]), (6, .arr 25 ((dvL a r i).map rx)), (9, .box 25 [.v .pl (int ((rder a (r.kids.getD i default))).kind), .v .pl (ints ((rder a (r.kids.getD i default))).syms), .v .pl (.sl (Rx.avs ((rder a (r.kids.getD i default))).kids))]), (69, .arr 25 (([(rder a (r.kids.getD i default))] : List Rx).map rx))]) 3 9 [(66, .v .pl (.sc (.slice none 0 0))), (67, .v .pl (rx (rder a (r.kids.getD i default)))), (68, .v .pl (rxs [(rder a (r.kids.getD i default))])), (69, .own 69), (70, .v .pl (.pc [int r.kind, ints r.syms, rxs r.kids] 2)), (71, .v .pl (rxs r.kids)), (72, .v .pl (int i)), (73, .v .pl (int ((i : Int) + 1))), (74, .v .pl (rxs (r.kids.drop ((i : Int) + 1).toNat))), (1, .v .pl (int a)), (2, .v .pl (rpc r)), (4, .pbox 4 0), (6, .own 6), (8, .v .pl (int i)), (9, .pbox 9 0), (10, .v .pl (.sc (.slice none 0 0)))] mixed (by kernel_rfl) (by kernel_rfl) (by kernel_rfl) rfl (by kernel_rfl) (fun t d h => h) rfl ?_ ?_ ?_ ?_ ?_
  · intro i hi
    rcases (by omega : i = 0 ∨ i = 1 ∨ i = 2 ∨ i = 3 ∨ i = 4 ∨ i = 5 ∨ i = 6 ∨ i = 7 ∨ i = 8) with rfl | rfl | rfl | rfl | rfl | rfl | rfl | rfl | rfl <;> exact ⟨_, _, rfl, rfl⟩
  · intro i o t d hi hia ho hd hG hn
    rcases (by omega : i = 0 ∨ i = 1 ∨ i = 2 ∨ i = 4 ∨ i = 5 ∨ i = 6 ∨ i = 7 ∨ i = 8) with rfl | rfl | rfl | rfl | rfl | rfl | rfl | rfl
    · injection (show some _ = some o from ho) with ho; subst ho; injection (show some _ = some t from hd) with hd; subst hd; injection (show some _ = some d from hG) with hG; subst hG
      exact pure_move rfl rfl
    · injection (show some _ = some o from ho) with ho; subst ho; injection (show some _ = some t from hd) with hd; subst hd; injection (show some _ = some d from hG) with hG; subst hG
      exact pure_load_box_agg rfl ag25 sz25 rfl rfl rfl rfl
    · injection (show some _ = some o from ho) with ho; subst ho; injection (show some _ = some t from hd) with hd; subst hd; injection (show some _ = some d from hG) with hG; subst hG
      exact pure_lit rfl Tryz.underlying23 el25 rfl rfl rfl rfl hM0
    · injection (show some _ = some o from ho) with ho; subst ho; injection (show some _ = some t from hd) with hd; subst hd; injection (show some _ = some d from hG) with hG; subst hG
      exact pure_field (cs := [int r.kind, ints r.syms, rxs r.kids]) (off := 0) rfl fd25_2 rfl
    · injection (show some _ = some o from ho) with ho; subst ho; injection (show some _ = some t from hd) with hd; subst hd; injection (show some _ = some d from hG) with hG; subst hG
      exact pure_load (cs := [int r.kind, ints r.syms, rxs r.kids]) (off := 2) rfl ag23 rfl rfl
    · injection (show some _ = some o from ho) with ho; subst ho; injection (show some _ = some t from hd) with hd; subst hd; injection (show some _ = some d from hG) with hG; subst hG
      exact pure_move rfl rfl
    · injection (show some _ = some o from ho) with ho; subst ho; injection (show some _ = some t from hd) with hd; subst hd; injection (show some _ = some d from hG) with hG; subst hG
      exact pure_addi rfl rfl rfl (by omega)
    · injection (show some _ = some o from ho) with ho; subst ho; injection (show some _ = some t from hd) with hd; subst hd; injection (show some _ = some d from hG) with hG; subst hG
      exact pure_slice_lm (f := rx) (l := r.kids) (i := (i : Int) + 1) rfl Tryz.underlying23 sz25 rfl rfl (by omega) (fun _ => rfl)
  · intro i o t d hi hia ho hd hG hn
    rcases (by omega : i = 0 ∨ i = 1 ∨ i = 2 ∨ i = 4 ∨ i = 5 ∨ i = 6 ∨ i = 7 ∨ i = 8) with rfl | rfl | rfl | rfl | rfl | rfl | rfl | rfl
    · exact absurd hn (by decide)
    · exact absurd hn (by decide)
    · exact absurd hn (by decide)
    · injection (show some _ = some o from ho) with ho; subst ho; injection (show some _ = some t from hd) with hd; subst hd; injection (show some _ = some d from hG) with hG; subst hG
      exact pure_field (cs := [int r.kind, ints r.syms, rxs r.kids]) (off := 0) rfl fd25_2 rfl
    · injection (show some _ = some o from ho) with ho; subst ho; injection (show some _ = some t from hd) with hd; subst hd; injection (show some _ = some d from hG) with hG; subst hG
      exact pure_load (cs := [int r.kind, ints r.syms, rxs r.kids]) (off := 2) rfl ag23 rfl rfl
    · injection (show some _ = some o from ho) with ho; subst ho; injection (show some _ = some t from hd) with hd; subst hd; injection (show some _ = some d from hG) with hG; subst hG
      exact pure_move rfl rfl
    · injection (show some _ = some o from ho) with ho; subst ho; injection (show some _ = some t from hd) with hd; subst hd; injection (show some _ = some d from hG) with hG; subst hG
      exact pure_addi rfl rfl rfl (by omega)
    · injection (show some _ = some o from ho) with ho; subst ho; injection (show some _ = some t from hd) with hd; subst hd; injection (show some _ = some d from hG) with hG; subst hG
      exact pure_slice_lm (f := rx) (l := r.kids) (i := (i : Int) + 1) rfl Tryz.underlying23 sz25 rfl rfl (by omega) (fun _ => rfl)
  · intro o X ho hXn hXG hXr
    have hXu : 66 ∈ looks _ o → X.lookup 66 = some (.v .pl (.sc (.slice none 0 0))) := fun h => (hXr 66 h).trans rfl
    have hXv : 68 ∈ looks _ o → X.lookup 68 = some (.v .pl (rxs [(rder a (r.kids.getD i default))])) := fun h => (hXr 68 h).trans rfl
    injection (show some _ = some o from ho) with ho'
    obtain ⟨s', g1, g2⟩ := step_apn (o := o) (f := rx) (l := [(rder a (r.kids.getD i default))]) (n := 93) (X := X) (o1 := [(4, .box 25 [.v .pl (.sc (.int .i64 0)), .v .pl (.sc (.slice none 0 0)), .v .pl (.sc (.slice none 0 0))]), (6, .arr 25 ((dvL a r i).map rx)), (9, .box 25 [.v .pl (int ((rder a (r.kids.getD i default))).kind), .v .pl (ints ((rder a (r.kids.getD i default))).syms), .v .pl (.sl (Rx.avs ((rder a (r.kids.getD i default))).kids))])]) (o2 := [(4, .box 25 [.v .pl (.sc (.int .i64 0)), .v .pl (.sc (.slice none 0 0)), .v .pl (.sc (.slice none 0 0))]), (6, .arr 25 ((dvL a r i).map rx)), (9, .box 25 [.v .pl (int ((rder a (r.kids.getD i default))).kind), .v .pl (ints ((rder a (r.kids.getD i default))).syms), .v .pl (.sl (Rx.avs ((rder a (r.kids.getD i default))).kids))]), (69, .arr 25 (([(rder a (r.kids.getD i default))] : List Rx).map rx))]) (t := 69) (u := 66) (v := 68) (by rw [← ho']; rfl) (by rw [← ho']; rfl) rfl hXn Tryz.underlying23 el25 (hXu (by rw [← ho']; decide)) (hXv (by rw [← ho']; decide)) (fun _ => rfl) (show (1 : Nat) * 56 ≤ 140737488355328 by decide) (show (1 : Nat) ≤ 4611686018427387904 by decide) (fun t' d h hne => all_stays (by rfl) (hXG t' d h) hne) rfl hM0
    exact ⟨69, _, s', by rw [← ho']; rfl, rfl, g1, g2⟩
  refine endL_of (n := 3) (by kernel_rfl) ?_
  refine ex_one (i := 9) (by kernel_rfl) rfl rfl (step_append rfl rfl rfl rfl Tryz.underlying23 el25 rfl rfl hM0 (src_plm (f := rx) (l := r.kids.drop (i + 1)) rfl (fun _ => rfl)) (by first | (simp only [ll]; omega) | omega) (by first | (simp only [ll]; omega) | omega)) ?_
  refine ex_imp (imp_frz (l := [(1, _), (2, _), (4, _), (6, _), (8, _), (9, _), (75, _)]) (o' := [(4, _), (6, _), (9, _)]) hM0 ⟨.inl rfl, .inl rfl, .inl rfl, .inl rfl, .inl rfl, .inl rfl, .inr ⟨_, _, rfl, rfl, rfl⟩, trivial⟩ ⟨rfl, rfl, rfl, trivial⟩) ?_
  refine ex_one (i := 10) (by kernel_rfl) rfl rfl (st_pure rfl rfl (pure_callN rfl rfl rfl rfl (of_call 3 ((rder a (r.kids.getD i default)) :: r.kids.drop (i + 1))) hM0)) ?_
  refine ex_one (i := 11) (by kernel_rfl) rfl rfl (step_store_box rfl rfl rfl sz25 rfl rfl rfl rfl (by decide) rfl rfl hM0) ?_
  refine ex_end (by kernel_rfl) ?_
  refine xD tb hM0 5 [1,2,4,6,8,9,78,79] [4,6,9] rfl ?_
  refine oP rfl (pure_ix rfl Tryz.underlying23 sz25 rfl rfl (by omega) (fun _ => rfl)) ?_
  refine xA tb hM0 1 [1,2,4,6,8,9,81] [4,6,9] rfl ?_
  refine oP rfl (pure_call rfl rfl rfl (racc_call _ (r.kids.getD i default) (Nat.le_refl _) (by have := size_kid (kid_mem (l := r.kids) (i := i) (by omega)); omega)) hM0) ?_
  refine xA tb hM0 2 [1,2,4,6,7,8,9] [4,6,9] rfl ?_
  refine cx ?_; rotate_left
  refine xA tb hM0 2 [1,2,4,6,7,8,9] [4,6,9] rfl ?_
  refine cx ?_; rotate_left
  rintro zs ⟨rfl⟩
  refine xA tb hM0 3 [1,2,4,7,8,83,84] [4,6] rfl ?_
  refine oP rfl (pure_lit rfl Tryz.underlying23 el25 rfl rfl rfl rfl hM0) ?_
  refine oS rfl (step_append rfl rfl rfl rfl Tryz.underlying23 el25 rfl rfl hM0 (src_pl rfl (one_len (by rfl))) (by simp only [List.length_map, dvL_len, List.length_cons, List.length_nil]; omega) (by simp only [List.length_map, dvL_len, List.length_cons, List.length_nil]; omega)) rfl ?_
  refine xA tb hM0 6 [1,2,4,6,7,54] [4,6] rfl ?_
  refine oP rfl (pure_addi rfl rfl rfl (by omega)) ?_
  refine xA tb hM0 2 [1,2,4,6,7,8] [4,6] rfl ?_
  refine nx ?_
  exact ⟨_, ⟨i + 1, rfl, by omega, all_step hL2_1 (by assumption), by rw [dvL_succ, List.map_append]; rfl⟩, by omega⟩
  refine xA tb hM0 14 [4,6,89] [4,6] rfl ?_
  refine spC 89 rfl ?_ ?_ <;> intro h8 <;> try simp only [dq] at h8
  refine xA tb hM0 3 [4] [4] rfl ?_
  refine oP rfl (pure_norm (pure_build rfl pl25 ze25 rfl rfl rfl) rfl) ?_
  refine xA tb hM0 5 [] [] rfl ?_
  refine endC_ret rfl ?_; rotate_left
  refine xA tb hM0 4 [4,6] [4,6] rfl ?_
  refine code_frz 93 [(4, _), (6, _)] [(4, _)] hM0 rfl ⟨.inl rfl, .inr ⟨_, _, rfl, rfl, rfl⟩, trivial⟩ ⟨rfl, trivial⟩ ?_
  refine xK tb hM0 2 [4,91] [4] rfl ?_
  refine oP rfl (pure_callN rfl rfl rfl rfl (of_call 4 (dvL a r i)) hM0) ?_
  refine xA tb hM0 4 [] [] rfl ?_
  refine endC_ret rfl ?_; rotate_left
  refine xA tb hM0 18 [4,6,89] [4,6] rfl ?_
  refine spC 89 rfl ?_ ?_ <;> intro h9 <;> try simp only [dq] at h9
  refine xA tb hM0 3 [4] [4] rfl ?_
  refine oP rfl (pure_norm (pure_build rfl pl25 ze25 rfl rfl rfl) rfl) ?_
  refine xA tb hM0 5 [] [] rfl ?_
  refine endC_ret rfl ?_; rotate_left
  refine xA tb hM0 4 [4,6] [4,6] rfl ?_
  refine code_frz 93 [(4, _), (6, _)] [(4, _)] hM0 rfl ⟨.inl rfl, .inr ⟨_, _, rfl, rfl, rfl⟩, trivial⟩ ⟨rfl, trivial⟩ ?_
  refine xK tb hM0 2 [4,91] [4] rfl ?_
  refine oP rfl (pure_callN rfl rfl rfl rfl (of_call 4 (dvL a r i)) hM0) ?_
  refine xA tb hM0 4 [] [] rfl ?_
  refine endC_ret rfl ?_; rotate_left
  all_goals first
   | (
     first | (rw [rder_2y (by omega) (mem_here (i := i) (by omega) (by omega))]; first | done | rfl) | (rw [rder_2n (by omega) (mem_upto hL1_1 (by omega))]; first | done | rfl) | (rw [rder_5 (by omega) (h5k (by omega))]; first | done | rfl) | (rw [rder_01 (by omega)]; first | done | rfl) | (rw [rder_end (i := i) (by omega) (by omega) (by omega) (by omega) hL2_1 (by first | exact .inl (by omega) | exact .inr (by assumption))]; first | done | rfl); done)
   | (
     first | (rw [dvE_3 (by omega), bfR_3 (by omega)]; first | done | rfl) | (rw [dvE_x (by omega), bfR_x (i := i) (by omega), bfR_x (i := i + 1) (by omega)]; first | done | rfl); done)
theorem fn25 : FnC Tryz.prog 25 Tryz.f25.ntmps 4 25 3 (Tryz.f25.body.getD .skip) := ⟨Tryz.f25, Tryz.func25, rfl, rfl, rfl, by kernel_rfl, ag25, sz25⟩
set_option maxRecDepth 100000 in
set_option maxHeartbeats 1000000 in
theorem rDerive_call {r : Rx} {a : Int} (h : r.size ≤ 137438953472) (h2 : (simR r).size ≤ 137438953472) (hd : dSz (simR r) ≤ 137438953472) : CallN Tryz.prog 25 [rx r, int a] (.p (rx (dR a (simR r)))) := by
  have hz := rder_size a (simR r) (simR_nf r)
  refine callN_of_codeC fn25 (Nat.le_of_ble_eq_true rfl) fun w0 M0 hM0 => ?_
  refine xC tb hM0 2 [0,1] [] rfl ?_
  refine oP rfl (pure_box rfl rfl rfl hM0) ?_
  refine xA tb hM0 6 [1,4,5] [4] rfl ?_
  refine oP rfl (pure_callN rfl rfl rfl rfl (rsimple_call (r := r) h) hM0) ?_
  refine xA tb hM0 1 [4,6,7] [4] rfl ?_
  refine oP rfl (pure_callN rfl rfl rfl rfl (rder_call _ (simR r) (Nat.le_refl _) h2 (simR_nf r) (by omega)) hM0) ?_
  refine oP rfl (pure_callN rfl rfl rfl rfl (rsimple_call (r := rder a (simR r)) (by omega)) hM0) ?_
  refine xA tb hM0 4 [] [] rfl ?_
  refine endC_ret rfl ?_
  rw [← rder_sim a (simR_nf r)]; first | done | rfl
end Go.Proofs.YtgdehkimfmfofaaGreat

