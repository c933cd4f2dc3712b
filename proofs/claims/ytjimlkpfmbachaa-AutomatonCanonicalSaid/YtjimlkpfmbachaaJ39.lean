/-
  Canonical: for all pairs of automata over the same symbols, their canonical automata are equal exactly if Differ finds no word; exactly one of the two accepts the word that it finds; Min has no more states, and is its own Min (wordbooklaw08, AutomatonCanonical).
-/
import Derived.Test.YtjimlkpfmbachaaJ38
import Derived.Test.YtjimlkpfmbachaaJ26
set_option linter.unusedVariables false
set_option linter.unusedSectionVars false
set_option linter.unusedSimpArgs false
namespace Go.Proofs.Ytjimlkpfmbachaa
open Go.Am Go.Wc Go.Wb Go.Wd
set_option linter.unusedVariables false
set_option linter.unusedSimpArgs false
theorem fn49 : FnC Try.prog 49 Try.f49.ntmps 6 56 2 (Try.f49.body.getD .skip) := ⟨Try.f49, Try.func49, rfl, rfl, rfl, by kernel_rfl, ag56, sz56⟩
set_option maxRecDepth 100000 in
set_option maxHeartbeats 2000000 in
theorem steps1_call {a b : Dfa} {x : Nat × Nat} {s : Nat} (ha : okD a) (hb : okD b) (hk : a.size = b.size) (hx : x.1 < a.next.length ∧ x.2 < b.next.length) (hs : s < a.k) : CallF Try.prog 49 ([pairI x, natI s] ++ [dpc a, dpc b]) (.p (pairI (pnext a b x s))) := by
  have hka := kk ha
  have hkb := kk hb
  have hra := (ha.row hx.1).1
  have hrb := (hb.row hx.2).1
  refine callF_of_codeC fn49 (Nat.le_of_ble_eq_true rfl) fun w0 M0 hM0 => ?_
  refine xC tb hM0 2 [0,1,2,3] [] rfl ?_
  refine oP rfl (pure_box rfl rfl rfl hM0) ?_
  refine xA tb hM0 4 [1,2,3,4,6] [6] rfl ?_
  refine code_draw mixed (by kernel_rfl) _ rfl ?_
  refine dl_pure rfl rfl rfl (pure_field rfl fd26_1 rfl) ?_
  refine dl_pure rfl rfl rfl (pure_load rfl ag23 rfl rfl) ?_
  refine dl_pure rfl rfl rfl (pure_index_pc rfl Try.underlying56 sz3 rfl rfl (by decide)) ?_
  refine dl_pure rfl rfl rfl (pure_load rfl ag3 rfl rfl) ?_
  refine dl_pure rfl rfl rfl (pure_ix rfl Try.underlying23 sz22 rfl rfl (by exact ⟨Int.natCast_nonneg _, Int.ofNat_lt.2 hx.1⟩) (fun _ => rfl)) ?_
  refine dl_pure rfl rfl rfl (pure_load rfl ag22 rfl rfl) ?_
  refine dl_pure rfl rfl rfl (pure_move rfl rfl) ?_
  refine dpk 26 [(1,_),(3,_),(4,_),(6,_),(12,_),(13,_)] [(6,_)] rfl rfl rfl ?_
  refine dl_pure rfl rfl rfl (pure_ix rfl Try.underlying22 sz3 rfl rfl (by exact ⟨Int.natCast_nonneg _, Int.ofNat_lt.2 (show s < _ by omega)⟩) (fun _ => rfl)) ?_
  refine dl_pure rfl rfl rfl (pure_load rfl ag3 rfl rfl) ?_
  refine dl_pure rfl rfl rfl (pure_field rfl fd26_1 rfl) ?_
  refine dl_pure rfl rfl rfl (pure_load rfl ag23 rfl rfl) ?_
  refine dl_pure rfl rfl rfl (pure_index_pc rfl Try.underlying56 sz3 rfl rfl (by decide)) ?_
  refine dl_pure rfl rfl rfl (pure_load rfl ag3 rfl rfl) ?_
  refine dl_pure rfl rfl rfl (pure_ix rfl Try.underlying23 sz22 rfl rfl (by exact ⟨Int.natCast_nonneg _, Int.ofNat_lt.2 hx.2⟩) (fun _ => rfl)) ?_
  refine dpk 26 [(1,_),(6,_),(15,_),(20,_)] [(6,_)] rfl rfl rfl ?_
  refine dl_pure rfl rfl rfl (pure_load rfl ag22 rfl rfl) ?_
  refine dl_pure rfl rfl rfl (pure_move rfl rfl) ?_
  refine dl_pure rfl rfl rfl (pure_ix rfl Try.underlying22 sz3 rfl rfl (by exact ⟨Int.natCast_nonneg _, Int.ofNat_lt.2 (show s < _ by omega)⟩) (fun _ => rfl)) ?_
  refine dl_pure rfl rfl rfl (pure_load rfl ag3 rfl rfl) ?_
  refine dl_pure rfl rfl rfl (pure_build2 rfl Try.underlying56 sz3 ze56 rfl rfl rfl rfl) ?_
  refine dl_tails (by kernel_rfl) ?_
  refine tl_step rfl (step_store_box rfl rfl rfl sz56 rfl rfl rfl rfl (by decide) rfl rfl hM0) ?_
  refine tl_nil ?_
  refine xD tb hM0 2 [] [] rfl ?_
  refine endC_ret rfl ?_
  have e1 := ha.cellN hx.1 (k := s) (by omega)
  have e2 := hb.cellN hx.2 (k := s) (by omega)
  have e3 : pairI (pnext a b x s) = .agg [int ((a.next.getD x.1 default).getD s default), int ((b.next.getD x.2 default).getD s default)] := by rw [e1, e2]; rfl
  exact (by rw [e3]; first | done | rfl)
theorem fn29 : Fn1 Try.prog 29 Try.f29.ntmps 4 (Try.f29.body.getD .skip) := ⟨Try.f29, Try.func29, rfl, rfl, rfl, by kernel_rfl⟩
set_option maxRecDepth 100000 in
theorem steps_call {a b : Dfa} : CallN Try.prog 29 [dfa a, dfa b] (.p (.clo 49 [dpc a, dpc b])) := by
  refine callN_of_code fn29 (Nat.le_of_ble_eq_true rfl) fun w0 M0 hM0 => ?_
  refine xC tb hM0 2 [0,1] [] rfl ?_
  refine oP rfl (pure_box rfl rfl rfl hM0) ?_
  refine oP rfl (pure_box rfl rfl rfl hM0) ?_
  refine xA tb hM0 5 [2,3] [] rfl ?_
  refine oP rfl (pure_func rfl rfl) ?_
  refine xA tb hM0 4 [] [] rfl ?_
  refine end_ret rfl ?_
  rfl
theorem fn30 : Fn1 Try.prog 30 Try.f30.ntmps 4 (Try.f30.body.getD .skip) := ⟨Try.f30, Try.func30, rfl, rfl, rfl, by kernel_rfl⟩
set_option maxRecDepth 100000 in
set_option maxHeartbeats 2000000 in
theorem differ1_call {a b : Dfa} {x : Nat × Nat} (hx : x.1 < a.fin.length ∧ x.2 < b.fin.length) : CallF Try.prog 30 ([pairI x] ++ [dpc a, dpc b]) (.p (bool (dgood a b x))) := by
  refine callF_of_code fn30 (Nat.le_of_ble_eq_true rfl) fun w0 M0 hM0 => ?_
  refine xC tb hM0 2 [0,1,2] [] rfl ?_
  refine oP rfl (pure_box rfl rfl rfl hM0) ?_
  refine xA tb hM0 4 [1,2,3] [] rfl ?_
  refine code_draw mixed (by kernel_rfl) _ rfl ?_
  refine dl_pure rfl rfl rfl (pure_field rfl fd26_2 rfl) ?_
  refine dl_pure rfl rfl rfl (pure_load rfl ag24 rfl rfl) ?_
  refine dl_pure rfl rfl rfl (pure_index_pc rfl Try.underlying56 sz3 rfl rfl (by decide)) ?_
  refine dl_pure rfl rfl rfl (pure_load rfl ag3 rfl rfl) ?_
  refine dl_pure rfl rfl rfl (pure_ix rfl Try.underlying24 sz4 rfl rfl (by exact ⟨Int.natCast_nonneg _, Int.ofNat_lt.2 hx.1⟩) (fun _ => rfl)) ?_
  refine dl_pure rfl rfl rfl (pure_load rfl ag4 rfl rfl) ?_
  refine dl_pure rfl rfl rfl (pure_field rfl fd26_2 rfl) ?_
  refine dpk 18 [(3,_),(10,_),(11,_)] [] rfl rfl rfl ?_
  refine dl_pure rfl rfl rfl (pure_load rfl ag24 rfl rfl) ?_
  refine dl_pure rfl rfl rfl (pure_index_pc rfl Try.underlying56 sz3 rfl rfl (by decide)) ?_
  refine dl_pure rfl rfl rfl (pure_load rfl ag3 rfl rfl) ?_
  refine dl_pure rfl rfl rfl (pure_ix rfl Try.underlying24 sz4 rfl rfl (by exact ⟨Int.natCast_nonneg _, Int.ofNat_lt.2 hx.2⟩) (fun _ => rfl)) ?_
  refine dl_pure rfl rfl rfl (pure_load rfl ag4 rfl rfl) ?_
  refine dl_pure rfl rfl rfl (pure_bne Try.underlying4 rfl rfl rfl) ?_
  refine dl_pure rfl rfl rfl (pure_assign rfl rfl) ?_
  refine dl_nil ?_
  refine xD tb hM0 2 [] [] rfl ?_
  refine end_ret rfl ?_
  rfl
theorem fn13 : Fn2 Try.prog 13 Try.f13.ntmps 4 5 (Try.f13.body.getD .skip) := ⟨Try.f13, Try.func13, rfl, rfl, rfl, by kernel_rfl⟩
set_option maxRecDepth 100000 in
set_option maxHeartbeats 4000000 in
theorem differ_call {a b : Dfa} (hn : a.next.length * b.next.length ≤ 4194304) : CallF Try.prog 13 [dfa a, dfa b] (.p (.tup [resW (differZ a b), bool (differZ a b).isSome])) := by
  refine callF_of_code2 fn13 (Nat.le_of_ble_eq_true rfl) fun w0 M0 hM0 => ?_
  refine xC tb hM0 2 [0,1] [] rfl ?_
  refine oP rfl (pure_box rfl rfl rfl hM0) ?_
  refine oP rfl (pure_box rfl rfl rfl hM0) ?_
  refine xA tb hM0 8 [2,3,6] [] rfl ?_
  refine oP rfl (pure_call rfl rfl rfl (validD_call (d := a)) hM0) ?_
  refine xA tb hM0 2 [2,3,9] [] rfl ?_
  refine spO 9 rfl ?_ ?_ <;> intro h1' <;> try simp only [dq] at h1'
  refine xA tb hM0 22 [] [] rfl ?_
  refine end2_ret rfl rfl ?_; rotate_left
  refine xA tb hM0 1 [2,3,9,10] [] rfl ?_
  refine oP rfl (pure_call rfl rfl rfl (validD_call (d := b)) hM0) ?_
  refine xA tb hM0 3 [2,3,14] [] rfl ?_
  refine spO 14 rfl ?_ ?_ <;> intro h2' <;> try simp only [dq] at h2'
  refine xA tb hM0 17 [] [] rfl ?_
  refine end2_ret rfl rfl ?_; rotate_left
  refine xA tb hM0 8 [2,3,20] [] rfl ?_
  refine spC 20 rfl ?_ ?_ <;> intro h3 <;> try simp only [dq] at h3
  refine xA tb hM0 9 [] [] rfl ?_
  refine end2_ret rfl rfl ?_; rotate_left
  have hda := valid_ok (d := a) (by assumption)
  have hdb := valid_ok (d := b) (by assumption)
  have hba := hda.1
  have hbb := hdb.1
  have hka := kk hda
  have hkb := kk hdb
  have hna : a.n = a.next.length := rfl
  have hnb : b.n = b.next.length := rfl
  have hse : a.size = b.size := by omega
  have hkk : a.k = b.k := by omega
  refine xA tb hM0 4 [2,3] [] rfl ?_
  refine code_draw mixed (by kernel_rfl) _ rfl ?_
  refine dl_pure rfl rfl rfl (pure_build0 rfl Try.underlying56 sz3 ze56 rfl rfl) ?_
  refine dl_pure rfl rfl rfl (pure_field rfl fd26_0 rfl) ?_
  refine dl_pure rfl rfl rfl (pure_load rfl ag3 rfl rfl) ?_
  refine dl_pure rfl rfl rfl (pure_load_agg rfl ag26 sz26 rfl (Nat.le_of_ble_eq_true rfl)) ?_
  refine dl_pure rfl rfl rfl (pure_load_agg rfl ag26 sz26 rfl (Nat.le_of_ble_eq_true rfl)) ?_
  refine dl_pure rfl rfl rfl (pure_callN rfl rfl rfl rfl (steps_call) hM0) ?_
  refine dl_pure rfl rfl rfl (pure_func rfl rfl) ?_
  refine dpk 31 [(21,_),(23,_),(26,_),(27,_)] [] rfl rfl rfl ?_
  refine dl_pure rfl rfl rfl (pure_call rfl rfl rfl (searchP_call (U := pairs a.n b.n) (next := pnext a b) (good := dgood a b) (size := a.k) (N := a.n * b.n) (start := (0, 0)) ⟨by omega, by omega⟩ (pnext_mem hda hdb hkk) (pairs_mem.2 ⟨by omega, by omega⟩) (by rw [pairs_len]; exact Nat.le_refl _) (by rw [pairs_len]; exact hn) hka.1 (fun x hx => by have h := pairs_mem.1 (show (x.1, x.2) ∈ _ from hx); exact ⟨by have := h.1; omega, by have := h.2; omega⟩) (fun x hx s hs => by have h := pairs_mem.1 (show (x.1, x.2) ∈ _ from hx); exact steps1_call hda hdb hse h hs) (fun x hx => by have h := pairs_mem.1 (show (x.1, x.2) ∈ _ from hx); exact differ1_call ⟨by have := h.1; omega, by have := h.2; omega⟩)) hM0) ?_
  refine dl_pure rfl rfl rfl (pure_extract rfl rfl rfl) ?_
  refine dl_pure rfl rfl rfl (pure_extract rfl rfl rfl) ?_
  refine dl_pure rfl rfl rfl (pure_assign rfl rfl) ?_
  refine dl_pure rfl rfl rfl (pure_assign rfl rfl) ?_
  refine dl_nil ?_
  refine xD tb hM0 2 [] [] rfl ?_
  refine end2_ret rfl rfl ?_; rotate_left
  all_goals
    first
      | (rw [differZ_a (a := a) (b := b) (by assumption)]; exact ⟨rfl, rfl⟩)
      | (rw [differZ_b (a := a) (b := b) (by assumption)]; exact ⟨rfl, rfl⟩)
      | (rw [differZ_f (a := a) (b := b) (fun q => by have := q.2.2; omega)]; exact ⟨rfl, rfl⟩)
      | (rw [differZ_t (a := a) (b := b) (by assumption) (by assumption) hse]; exact ⟨rfl, rfl⟩)
end Go.Proofs.Ytjimlkpfmbachaa

namespace Go.Proofs.Ytjimlkpfmbachaa
open Go.Am Go.Wc Go.Wb Go.Wd
set_option linter.unusedVariables false
set_option linter.unusedSimpArgs false
theorem nats_ints (w : List Nat) : nats w = ints (natL w) := by rw [nats, ← natL_nats]
theorem fn4 : Fn1 Try.prog 4 Try.f4.ntmps 4 (Try.f4.body.getD .skip) := ⟨Try.f4, Try.func4, rfl, rfl, rfl, by kernel_rfl⟩
set_option maxRecDepth 100000 in
set_option maxHeartbeats 8000000 in
theorem canonical_law {l m : List Int} (hl : I64s l) (hm : I64s m) : CallF Try.prog 4 [ints l, ints m] (.p (bool true)) := by
  obtain ⟨A, hAe⟩ : ∃ A, A = dfaP l := ⟨_, rfl⟩
  have hA : okD A ∧ A.n ≤ 7 := by rw [hAe]; exact dfa_ok l
  have hsz : 1 ≤ A.size ∧ A.size ≤ 64 := hA.1.1.1
  have hcall : CallF Try.prog 5 [ints l] (.p (dfa A)) := by rw [hAe]; exact dfa_call hl
  have hmn : (minZ A).n ≤ 7 := by rw [minZ_t (ok_valid hA.1)]; have := (minP_ok hA.1).2; omega
  have hmo : okD (minZ A) ∧ (minZ A).size = A.size := by rw [minZ_t (ok_valid hA.1)]; exact ⟨(minP_ok hA.1).1, (minP_size hA.1).1⟩
  have hmn2 : (minZ A).next.length ≤ A.next.length := by rw [minZ_t (ok_valid hA.1)]; exact (minP_ok hA.1).2
  have hX : ∀ i, i < 3 → okD ([sizedP m A.size, sizedP l A.size, minZ A].getD i default) ∧ ([sizedP m A.size, sizedP l A.size, minZ A].getD i default).n ≤ 7 ∧ A.size = ([sizedP m A.size, sizedP l A.size, minZ A].getD i default).size := fun i hi => by
    rcases (by omega : i = 0 ∨ i = 1 ∨ i = 2) with rfl | rfl | rfl
    · exact ⟨(sized_ok hsz).1, (sized_ok hsz).2, rfl⟩
    · exact ⟨(sized_ok hsz).1, (sized_ok hsz).2, rfl⟩
    · exact ⟨hmo.1, hmn, hmo.2.symm⟩
  have hmm := minZ_minZ hA.1
  have hb1 := minZ_bd A
  have hb2 := minZ_bd (minZ A)
  have hAn : A.n = A.next.length := rfl
  have hml : (minZ A).n = (minZ A).next.length := rfl
  have hm1 := hmo.1.1.2.1.1
  clear hAe
  refine callF_of_code fn4 (Nat.le_of_ble_eq_true rfl) fun w0 M0 hM0 => ?_
  refine xC tb hM0 8 [0,1,11] [] rfl ?_
  refine oP rfl (pure_call rfl rfl rfl (hcall) hM0) ?_
  refine xA tb hM0 5 [0,1,5] [5] rfl ?_
  refine code_frz 86 [(0, _), (1, _), (5, _)] [] hM0 rfl ⟨.inl rfl, .inl rfl, .inr ⟨_, _, rfl, rfl, rfl⟩, trivial⟩ trivial ?_
  refine code_draw mixed (by kernel_rfl) _ rfl ?_
  refine dl_pure rfl rfl rfl (pure_move rfl rfl) ?_
  refine dl_pure rfl rfl rfl (pure_field rfl fd26_0 rfl) ?_
  refine dl_pure rfl rfl rfl (pure_load rfl ag3 rfl rfl) ?_
  refine dl_pure rfl rfl rfl (pure_call rfl rfl rfl (sized_call (size := A.size) hm hsz) hM0) ?_
  refine dl_pure rfl rfl rfl (pure_move rfl rfl) ?_
  refine dl_pure rfl rfl rfl (pure_field rfl fd26_0 rfl) ?_
  refine dl_pure rfl rfl rfl (pure_load rfl ag3 rfl rfl) ?_
  refine dpk 86 [(5,_),(16,_),(17,_),(19,_)] [] rfl rfl rfl ?_
  refine dl_pure rfl rfl rfl (pure_call rfl rfl rfl (sized_call (size := A.size) hl hsz) hM0) ?_
  refine dl_pure rfl rfl rfl (pure_load_agg rfl ag26 sz26 rfl (Nat.le_of_ble_eq_true rfl)) ?_
  refine dl_pure rfl rfl rfl (pure_call rfl rfl rfl (min_call (d := A)) hM0) ?_
  refine dl_pure rfl rfl rfl (pure_lit rfl Try.underlying29 el26 rfl rfl rfl rfl hM0) ?_
  refine dl_pure rfl rfl rfl (pure_assign rfl rfl) ?_
  refine dl_nil ?_
  refine xD tb hM0 4 [5,6,24] [] rfl ?_
  refine oP rfl (pure_call rfl rfl rfl (min_call (d := A)) hM0) ?_
  refine xA tb hM0 6 [5,6,7] [7] rfl ?_
  refine code_frz 86 [(5, _), (6, _), (7, _)] [] hM0 rfl ⟨.inl rfl, .inl rfl, .inr ⟨_, _, rfl, rfl, rfl⟩, trivial⟩ trivial ?_
  refine code_draw mixed (by kernel_rfl) _ rfl ?_
  refine dl_pure rfl rfl rfl (pure_field rfl fd26_1 rfl) ?_
  refine dl_pure rfl rfl rfl (pure_load rfl ag23 rfl rfl) ?_
  refine dl_pure rfl rfl rfl (pure_lenm rfl Try.underlying23 rfl) ?_
  refine dl_pure rfl rfl rfl (pure_to (b' := false) (pure_lss rfl rfl rfl) (decide_eq_false (by omega))) ?_
  refine dl_pure rfl rfl rfl (pure_move rfl rfl) ?_
  refine dl_pure_g rfl rfl rfl rfl rfl (pure_field rfl fd26_1 rfl) ?_
  refine dl_pure_g rfl rfl rfl rfl rfl (pure_load rfl ag23 rfl rfl) ?_
  refine dpk 86 [(5,_),(6,_),(7,_),(30,_),(32,_)] [] rfl rfl rfl ?_
  refine dl_pure_g rfl rfl rfl rfl rfl (pure_lenm rfl Try.underlying23 rfl) ?_
  refine dl_pure_g rfl rfl rfl rfl rfl (pure_field rfl fd26_1 rfl) ?_
  refine dl_pure_g rfl rfl rfl rfl rfl (pure_load rfl ag23 rfl rfl) ?_
  refine dl_pure_g rfl rfl rfl rfl rfl (pure_lenm rfl Try.underlying23 rfl) ?_
  refine dl_pure_g rfl rfl rfl rfl rfl (pure_to (b' := false) (pure_gtr rfl rfl rfl) (decide_eq_false (by omega))) ?_
  refine dl_pure rfl rfl rfl (pure_pick_f rfl rfl rfl rfl) ?_
  refine dl_pure rfl rfl rfl (pure_move rfl rfl) ?_
  refine dpk 86 [(5,_),(6,_),(7,_),(39,_)] [] rfl rfl rfl ?_
  refine dl_pure_g rfl rfl rfl rfl rfl (pure_load_agg rfl ag26 sz26 rfl (Nat.le_of_ble_eq_true rfl)) ?_
  refine dl_pure_g rfl rfl rfl rfl rfl (pure_call rfl rfl rfl (min_call (d := minZ A)) hM0) ?_
  refine dl_pure_g rfl rfl rfl rfl rfl (pure_load_agg rfl ag26 sz26 rfl (Nat.le_of_ble_eq_true rfl)) ?_
  refine dl_pure_g rfl rfl rfl rfl rfl (pure_callb (b' := true) rfl rfl rfl (dsame_call (a := minZ (minZ A)) (b := minZ A) (by omega) (by omega) (fun r hr => by have := hb2.2.2 r hr; omega)) hM0 (decide_eq_true hmm)) ?_
  refine dl_pure_g rfl rfl rfl rfl rfl (pure_not rfl rfl) ?_
  refine dl_pure rfl rfl rfl (pure_pick_f rfl rfl rfl rfl) ?_
  refine dl_nil ?_
  refine xD tb hM0 11 [5,6,7,8] [] rfl ?_
  refine lp (fun zm zs => ∃ i : Nat, zm = 3 - i ∧ (i ≤ 3) ∧ zs = ⟨86, [(5, .v .pl (dpc A)), (6, .v .pl (.sl ([sizedP m A.size, sizedP l A.size, minZ A].map dfa))), (7, .v .pl (dpc (minZ A))), (8, .v .pl (int i))], []⟩) ?_ ?_
  exact ⟨_, 0, rfl, Nat.zero_le _, rfl⟩
  rintro zm zs ⟨i, rfl, hL1_0, rfl⟩
  have h33 : ([sizedP m A.size, sizedP l A.size, minZ A]).length = 3 := rfl
  refine xA tb hM0 5 [5,6,7,8,46,47] [] rfl ?_
  refine oP rfl (pure_lenm rfl Try.underlying29 rfl) ?_
  refine xA tb hM0 3 [5,6,7,8,49] [] rfl ?_
  refine spC 49 rfl ?_ ?_ <;> intro h1 <;> try simp only [dq] at h1
  refine xA tb hM0 6 [5,6,7,8] [] rfl ?_
  have hi3 : i < 3 := by omega
  have hXi := hX i hi3
  have hbit := canon_bits hA.1 hXi.1 hXi.2.2
  have hbit2 : (differZ A ([sizedP m A.size, sizedP l A.size, minZ A].getD i default)).isSome = true → (accI A (natL ((differZ A ([sizedP m A.size, sizedP l A.size, minZ A].getD i default)).getD [])) == accI ([sizedP m A.size, sizedP l A.size, minZ A].getD i default) (natL ((differZ A ([sizedP m A.size, sizedP l A.size, minZ A].getD i default)).getD []))) = false := fun h => by
    obtain ⟨w, hw⟩ := Option.isSome_iff_exists.1 h
    rw [hw]
    exact hbit.2 w hw
  have hwl : (natL ((differZ A ([sizedP m A.size, sizedP l A.size, minZ A].getD i default)).getD [])).length ≤ 4611686018427387904 := differ_len hA.1 hA.2 hXi.1 hXi.2.1 hXi.2.2
  refine code_draw mixed (by kernel_rfl) _ rfl ?_
  refine dl_pure rfl rfl rfl (pure_load_agg rfl ag26 sz26 rfl (Nat.le_of_ble_eq_true rfl)) ?_
  refine dl_pure rfl rfl rfl (pure_move rfl rfl) ?_
  refine dl_pure rfl rfl rfl (pure_move rfl rfl) ?_
  refine dl_pure rfl rfl rfl (pure_ix (f := dfa) (l := [sizedP m A.size, sizedP l A.size, minZ A]) rfl Try.underlying29 sz26 rfl rfl (by omega) (fun _ => rfl)) ?_
  refine dl_pure rfl rfl rfl (pure_load_agg rfl ag26 sz26 rfl (Nat.le_of_ble_eq_true rfl)) ?_
  refine dl_pure rfl rfl rfl (pure_call rfl rfl rfl (differ_call (a := A) (b := ([sizedP m A.size, sizedP l A.size, minZ A].getD i default)) (Nat.le_trans (Nat.mul_le_mul (show A.next.length ≤ 7 by omega) (show ([sizedP m A.size, sizedP l A.size, minZ A].getD i default).next.length ≤ 7 from hXi.2.1)) (by decide))) hM0) ?_
  refine dl_pure rfl rfl rfl (pure_move rfl rfl) ?_
  refine dpk 86 [(5,_),(6,_),(7,_),(8,_),(52,_)] [] rfl rfl rfl ?_
  refine dl_pure rfl rfl rfl (pure_extract rfl rfl rfl) ?_
  refine dl_pure rfl rfl rfl (pure_extract rfl rfl rfl) ?_
  refine dl_pure rfl rfl rfl (pure_assign rfl rfl) ?_
  refine dl_pure rfl rfl rfl (pure_assign rfl rfl) ?_
  refine dl_nil ?_
  refine xD tb hM0 2 [5,6,7,8,9,10] [] rfl ?_
  refine code_draw mixed (by kernel_rfl) _ rfl ?_
  refine dl_pure rfl rfl rfl (pure_move rfl rfl) ?_
  refine dl_pure rfl rfl rfl (pure_load_agg rfl ag26 sz26 rfl (Nat.le_of_ble_eq_true rfl)) ?_
  refine dl_pure rfl rfl rfl (pure_move rfl rfl) ?_
  refine dl_pure rfl rfl rfl (pure_move rfl rfl) ?_
  refine dl_pure rfl rfl rfl (pure_ix (f := dfa) (l := [sizedP m A.size, sizedP l A.size, minZ A]) rfl Try.underlying29 sz26 rfl rfl (by omega) (fun _ => rfl)) ?_
  refine dl_pure rfl rfl rfl (pure_load_agg rfl ag26 sz26 rfl (Nat.le_of_ble_eq_true rfl)) ?_
  refine dl_pure rfl rfl rfl (pure_call rfl rfl rfl (min_call (d := ([sizedP m A.size, sizedP l A.size, minZ A].getD i default))) hM0) ?_
  refine dpk 86 [(5,_),(6,_),(7,_),(8,_),(9,_),(10,_),(61,_),(62,_),(67,_)] [] rfl rfl rfl ?_
  refine dl_pure rfl rfl rfl (pure_call rfl rfl rfl (dsame_call (a := minZ A) (b := minZ ([sizedP m A.size, sizedP l A.size, minZ A].getD i default)) (by omega) (by omega) (fun r hr => by have := hb1.2.2 r hr; omega)) hM0) ?_
  refine dl_pure rfl rfl rfl (pure_to (b' := false) (pure_beq Try.underlying4 rfl rfl rfl) (hbit.1)) ?_
  refine dl_pure rfl rfl rfl (pure_move rfl rfl) ?_
  refine dl_pure_g rfl rfl rfl rfl rfl (pure_move rfl rfl) ?_
  refine dl_pure_g rfl rfl rfl rfl rfl (pure_move rfl rfl) ?_
  refine dl_guard rfl (fun h2 => ?_) (fun h2 => ?_)
  have h2' := h2; try simp only [dq] at h2'
  refine dl_pure_g rfl rfl h2 rfl rfl (pure_load_agg rfl ag26 sz26 rfl (Nat.le_of_ble_eq_true rfl)) ?_
  refine dl_pure_g rfl rfl h2 rfl rfl (pure_move rfl rfl) ?_
  refine dpk 86 [(5,_),(6,_),(7,_),(8,_),(9,_),(70,_),(72,_),(73,_),(74,_)] [] rfl rfl rfl ?_
  refine dl_pure_g rfl rfl h2 rfl rfl (pure_call rfl rfl rfl (by rw [show resW (differZ A ([sizedP m A.size, sizedP l A.size, minZ A].getD i default)) = ints (natL ((differZ A ([sizedP m A.size, sizedP l A.size, minZ A].getD i default)).getD [])) from nats_ints _]; exact acc_call (d := A) (w := natL ((differZ A ([sizedP m A.size, sizedP l A.size, minZ A].getD i default)).getD [])) hwl) hM0) ?_
  refine dl_pure_g rfl rfl h2 rfl rfl (pure_move rfl rfl) ?_
  refine dl_pure_g rfl rfl h2 rfl rfl (pure_move rfl rfl) ?_
  refine dl_pure_g rfl rfl h2 rfl rfl (pure_ix (f := dfa) (l := [sizedP m A.size, sizedP l A.size, minZ A]) rfl Try.underlying29 sz26 rfl rfl (by omega) (fun _ => rfl)) ?_
  refine dl_pure_g rfl rfl h2 rfl rfl (pure_load_agg rfl ag26 sz26 rfl (Nat.le_of_ble_eq_true rfl)) ?_
  refine dl_pure_g rfl rfl h2 rfl rfl (pure_move rfl rfl) ?_
  refine dl_pure_g rfl rfl h2 rfl rfl (pure_call rfl rfl rfl (by rw [show resW (differZ A ([sizedP m A.size, sizedP l A.size, minZ A].getD i default)) = ints (natL ((differZ A ([sizedP m A.size, sizedP l A.size, minZ A].getD i default)).getD [])) from nats_ints _]; exact acc_call (d := ([sizedP m A.size, sizedP l A.size, minZ A].getD i default)) (w := natL ((differZ A ([sizedP m A.size, sizedP l A.size, minZ A].getD i default)).getD [])) hwl) hM0) ?_
  refine dl_pure_g rfl rfl h2 rfl rfl (pure_to (b' := false) (pure_beq Try.underlying4 rfl rfl rfl) (hbit2 (by assumption))) ?_
  refine dl_pure_g rfl rfl rfl rfl rfl (pure_pick_t rfl rfl h2 rfl) ?_
  refine dl_pure rfl rfl rfl (pure_pick_f rfl rfl rfl rfl) ?_
  refine dl_nil ?_
  refine xD tb hM0 7 [5,6,7,50] [] rfl ?_
  refine oP rfl (pure_addi rfl rfl rfl (by omega)) ?_
  refine xA tb hM0 2 [5,6,7,8] [] rfl ?_
  refine nx ?_; rotate_left
  have h2' := h2; try simp only [dq] at h2'
  refine dl_skip_g rfl rfl h2 rfl rfl ?_
  refine dl_skip_g rfl rfl h2 rfl rfl ?_
  refine dpk 86 [(5,_),(6,_),(7,_),(8,_),(9,_),(70,_),(72,_),(73,_),(74,_)] [] rfl rfl rfl ?_
  refine dl_skip_g rfl rfl h2 rfl rfl ?_
  refine dl_skip_g rfl rfl h2 rfl rfl ?_
  refine dl_skip_g rfl rfl h2 rfl rfl ?_
  refine dl_skip_g rfl rfl h2 rfl rfl ?_
  refine dl_skip_g rfl rfl h2 rfl rfl ?_
  refine dl_skip_g rfl rfl h2 rfl rfl ?_
  refine dl_skip_g rfl rfl h2 rfl rfl ?_
  refine dl_skip_g rfl rfl h2 rfl rfl ?_
  refine dl_pure_g rfl rfl rfl rfl rfl (pure_pick_f rfl rfl h2 rfl) ?_
  refine dl_pure rfl rfl rfl (pure_pick_f rfl rfl rfl rfl) ?_
  refine dl_nil ?_
  refine xD tb hM0 7 [5,6,7,50] [] rfl ?_
  refine oP rfl (pure_addi rfl rfl rfl (by omega)) ?_
  refine xA tb hM0 2 [5,6,7,8] [] rfl ?_
  refine nx ?_; rotate_left
  refine xA tb hM0 8 [] [] rfl ?_
  refine oP rfl (pure_call rfl rfl rfl (lives_call) hM0) ?_
  refine xA tb hM0 4 [] [] rfl ?_
  refine end_ret rfl ?_
  first | rfl | simp_all
  all_goals
    exact ⟨_, ⟨i + 1, rfl, by omega, rfl⟩, by omega⟩
/-! The statement AutomatonCanonicalSaid. -/
namespace automatonCanonical
open Go.ChangeShapes Go.WideShapes Go.ChangeAt Go.RowKit Go.Am
theorem own : ownKnob Try.prog.godebug = none := by kernel_rfl
set_option maxRecDepth 100000 in
theorem lifted (os : Os) (started : os.Started) (H : Type) (enc : TypeId × Value → H) :
    ReturnsInHanded {} Try.checked os 4 .any (Rows.automatonCanonicalSpec.pre6 enc Try.prog Try.f4 Rows.automatonCanonicalRow.domain false) (Rows.automatonCanonicalSpec.post enc Try.prog Try.f4 false true false false) := by
  refine returnsInHanded_of_change (C := Try.checked) own started (by kernel_rfl) Try.func4
    (ChangeSpec.witness6 (enc := enc) (C := Try.checked) false ⟨#[], #[.slice none 0 0, .slice none 0 0], []⟩ 8 (by kernel_rfl) (by kernel_rfl) (by kernel_rfl) (by kernel_rfl)) ?_
  intro W base args ds gs before hval0 hW hcnd _
  have hval : ∀ (j : Nat) t v, Try.f4.params[j]? = some t → args[j]? = some v → Value.okWide Try.prog W .any base t v := hval0
  have hW' := hW
  obtain ⟨p, q, hA0, hV, rfl, hfz, hnd⟩ := hW
  have hA : DataW.TrodAll enc Try.prog W 0 (fun _ => true) true Try.f4.params.toList args.toList ds p := hA0
  rw [Try.params4] at hA hval
  obtain ⟨v0, vs0, d0, ds0, p0, q0, hargs, rfl, rfl, h0, r0⟩ := trodAll_cons hA
  obtain ⟨v1, vs1, d1, ds1, p1, q1, rfl, rfl, rfl, h1, r1⟩ := trodAll_cons r0
  obtain ⟨rfl, rfl, rfl⟩ := trodAll_nil r1
  obtain rfl : args = #[v0, v1] := by cases args; simp_all
  obtain ⟨x0, y0, z0, e0⟩ := open_intsA Try.underlying22 Try.underlying3 sz3 (hval 0 22 v0 rfl rfl) h0
  obtain ⟨x1, y1, z1, e1⟩ := open_intsA Try.underlying22 Try.underlying3 sz3 (hval 1 22 v1 rfl rfl) h1
  have hcall := (canonical_law y0 y1).use (w := W) (vs := [v0, v1]) ⟨e0, e1, trivial⟩
  exact law_post (tb := 4) (by kernel_rfl) (by kernel_rfl) (by kernel_rfl) Try.underlying4 rfl rfl hW' hcall
theorem over : Rows.automatonCanonicalRow.holds Try.pinned (OpenSpec.ofChange Rows.automatonCanonicalSpec) :=
  OpenClaim.holds_of_wide 4 Try.f4 rfl rfl rfl rfl rfl rfl rfl ⟨rfl, rfl, rfl, rfl, rfl⟩ rfl rfl rfl rfl rfl (by kernel_rfl) Try.func4 (by kernel_rfl)
    (of_decide_eq_true (by kernel_rfl)) (by unfold Func.isWrapper; first | (rw [if_pos (by decide +kernel)]; kernel_rfl) | (rw [if_neg (by decide +kernel)]; exact ⟨rfl, rfl⟩))
    (fun os started H enc _ => lifted os started H enc)
end automatonCanonical
theorem automatonCanonical_holds : Rows.AutomatonCanonicalSaid := automatonCanonical.over
end Go.Proofs.Ytjimlkpfmbachaa

