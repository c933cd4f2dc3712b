/-
  Contracts: printing as the reference does it.
-/
import Derived.Test.YtgdehkimfmfofaaGreatJ34
import Derived.Test.YtgdehkimfmfofaaGreatJ25
import Derived.Test.YtgdehkimfmfofaaGreatJ19
import Derived.Test.YtgdehkimfmfofaaGreatJ14
import Derived.Test.YtgdehkimfmfofaaGreatJ33
import Derived.Test.YtgdehkimfmfofaaGreatJ20
set_option linter.unusedVariables false
set_option linter.unusedSimpArgs false
namespace Go.Proofs.YtgdehkimfmfofaaGreat
open Go.Am Go.Wb
set_option linter.unusedVariables false
set_option linter.unusedSimpArgs false
theorem step_bit {P : Program} {w0 : Fr} {M0 : Nat → Prop} {s : St} {o : Oper} {T e : TypeId} {x y : Operand} {id off : Nat} {f g : Nat → Bool} (ho : o.op = .store T x y) (hd : o.dst = none) (hnd : Nodup s.s = true) (hk : szOf P T = some 1)
    (hx : s.ev x = some (.pbox id off)) (hl : s.o.lookup id = some (.box e (bCells f))) (hy : s.ev y = some (.v .pl (bool true))) (hle : off < 64) (hg : spl (keepC id (bCells f)) off [.v .pl (bool true)] = bCells g) (hM0 : ∀ b, M0 b → b < w0.w.heap.size) :
    Step P w0 M0 o s (s.upd false id (.box e (bCells g))) := by
  have := step_store_box (P := P) (w0 := w0) (M0 := M0) (k := 1) ho hd hnd hk hx hl hy rfl (fun h => by cases h) rfl (by rw [bCells_len]; exact Nat.ble_eq_true_of_le (by omega)) hM0
  rw [show boxCells (.v .pl (bool true)) = [.v .pl (bool true)] from rfl, hg] at this
  exact this
theorem zeArr : zeroOf Tryz.prog 127 = some (List.replicate 64 (Value.bool false)) := by kernel_rfl
theorem fn82 : FnC Tryz.prog 82 Tryz.f82.ntmps 2 25 3 (Tryz.f82.body.getD .skip) := ⟨Tryz.f82, Tryz.func82, rfl, rfl, rfl, by kernel_rfl, ag25, sz25⟩
set_option maxRecDepth 100000 in
set_option maxHeartbeats 8000000 in
theorem ralt_call {l : List Rx} (hn : ∀ x ∈ l, Nf x) (hs : Rx.sizes l ≤ 274877906944) : CallN Tryz.prog 82 [rxs l] (.p (rx (rAlt l))) := by
  have hl := sizes_len l
  have hLs := sizes_altL l
  have hLl := sizes_len (altL l)
  have hz : ∀ j k, j < (altL l).length → k < ((altL l).getD j default).syms.length → 0 ≤ ((altL l).getD j default).syms.getD k default ∧ ((altL l).getD j default).syms.getD k default < 64 := fun j k hj hk => by
    have h1 := (altL_nf hn (kid_mem hj)).1
    have h2 : ((altL l).getD j default).syms.getD k default ∈ ((altL l).getD j default).syms := by rw [getD_el hk]; exact List.getElem_mem hk
    exact (setOk_iff.1 (h1.k2 (nf_set h1 h2)).2).2.2 _ h2
  have hsz : ∀ j, j < (altL l).length → ((altL l).getD j default).size ≤ Rx.sizes (altL l) := fun j hj => size_mem (kid_mem hj)
  have hsy : ∀ j, ((altL l).getD j default).syms.length < ((altL l).getD j default).size := fun j => syms_len _
  have hro : ∀ j, Rx.sizes (rOut ((altL l).take j)) ≤ Rx.sizes (altL l) := fun j => Nat.le_trans (sizes_out _) (sizes_take_le _ _)
  have hsl := rSyms_len (altL l) 64
  have h2s := sizes_alt2 (altL l)
  have h3s := sizes_alt3 (altL l)
  have hm2 : (Rx.mk 2 (rSyms (altL l) 64) []).size = 1 + (rSyms (altL l) 64).length := by rw [size_mk, Rx.sizes]; rfl
  refine callN_of_codeC fn82 (Nat.le_of_ble_eq_true rfl) fun w0 M0 hM0 => ?_
  refine xC tb hM0 7 [0,2] [2] rfl ?_
  refine oS rfl (step_nil rfl rfl rfl rfl rfl 25 hM0) rfl ?_
  refine xA tb hM0 9 [0,2,3,4] [2,3] rfl ?_
  refine lp (fun zm zs => ∃ i : Nat, zm = l.length - i ∧ (i ≤ l.length) ∧ zs = ⟨128, [(0, .v .pl (rxs l)), (2, .pbox 2 0), (3, .own 3), (4, .v .pl (int i))], [(2, .box 25 [.v .pl (.sc (.int .i64 0)), .v .pl (.sc (.slice none 0 0)), .v .pl (.sc (.slice none 0 0))]), (3, .arr 25 ((altL (l.take i)).map rx))]⟩) ?_ ?_
  exact ⟨_, 0, rfl, Nat.zero_le _, rfl⟩
  rintro zm zs ⟨i, rfl, hL1_0, rfl⟩
  have hb2 := sizes_altL (l.take i)
  have hb3 := sizes_take_le l i
  have hb4 := sizes_len (altL (l.take i))
  have hb5 := fun (h : i < l.length) => size_mem (kid_mem h)
  have hb10 := kids_len (l.getD i default)
  refine xA tb hM0 5 [0,2,3,4,13,14] [2,3] rfl ?_
  refine oP rfl (pure_lenm rfl Tryz.underlying23 rfl) ?_
  refine xA tb hM0 3 [0,2,3,4,16] [2,3] rfl ?_
  refine spC 16 rfl ?_ ?_ <;> intro h1 <;> try simp only [dq] at h1
  refine xA tb hM0 9 [0,2,3,4,19,20] [2,3] rfl ?_
  refine oP rfl (pure_ix rfl Tryz.underlying23 sz25 rfl rfl (by omega) (fun _ => rfl)) ?_
  refine xA tb hM0 5 [0,2,3,4,24] [2,3] rfl ?_
  refine spC 24 rfl ?_ ?_ <;> intro h2 <;> try simp only [dq] at h2
  refine xA tb hM0 5 [0,2,4,25,26,27] [2,3] rfl ?_
  refine oP rfl (pure_ix rfl Tryz.underlying23 sz25 rfl rfl (by omega) (fun _ => rfl)) ?_
  refine xA tb hM0 2 [0,2,4,25,30] [2,3] rfl ?_
  refine oS rfl (step_append rfl rfl rfl rfl Tryz.underlying23 el25 rfl rfl hM0 (src_avs (l := (l.getD i default).kids) rfl) (by first | (simp only [ll]; omega) | omega) (by first | (simp only [ll]; omega) | omega)) rfl ?_
  refine xA tb hM0 6 [0,2,3,17] [2,3] rfl ?_
  refine oP rfl (pure_addi rfl rfl rfl (by omega)) ?_
  refine xA tb hM0 2 [0,2,3,4] [2,3] rfl ?_
  refine nx ?_; rotate_left
  refine xA tb hM0 5 [0,2,4,32,33,34] [2,3] rfl ?_
  refine oP rfl (pure_ix rfl Tryz.underlying23 sz25 rfl rfl (by omega) (fun _ => rfl)) ?_
  refine xA tb hM0 1 [0,2,4,32,36] [2,3] rfl ?_
  refine oP rfl (pure_lit rfl Tryz.underlying23 el25 rfl rfl rfl rfl hM0) ?_
  refine oS rfl (step_append rfl rfl rfl rfl Tryz.underlying23 el25 rfl rfl hM0 (src_pl rfl (one_len (by rfl))) (by first | (simp only [ll]; omega) | omega) (by first | (simp only [ll]; omega) | omega)) rfl ?_
  refine xA tb hM0 6 [0,2,3,17] [2,3] rfl ?_
  refine oP rfl (pure_addi rfl rfl rfl (by omega)) ?_
  refine xA tb hM0 2 [0,2,3,4] [2,3] rfl ?_
  refine nx ?_; rotate_left
  refine xA tb hM0 7 [2,3] [2,3] rfl ?_
  refine code_frz 128 [(2, _), (3, _)] [(2, _)] hM0 rfl ⟨.inl rfl, .inr ⟨_, _, rfl, rfl, rfl⟩, trivial⟩ ⟨rfl, trivial⟩ ?_
  rw [show l.take i = l from List.take_of_length_le (by omega)]
  refine xK tb hM0 1 [2,3] [2] rfl ?_
  refine oS rfl (step_alloc rfl rfl rfl rfl rfl zeArr rfl hM0) rfl ?_
  refine xA tb hM0 4 [2,3,5] [2,5] rfl ?_
  refine oP rfl (pure_norm (pure_assign rfl rfl) rfl) ?_
  refine xA tb hM0 19 [2,3,5,6,7,8,9] [2,5] rfl ?_
  refine lp (fun zm zs => ∃ j : Nat, zm = (altL l).length - j ∧ (j ≤ (altL l).length) ∧ zs = ⟨128, [(2, .pbox 2 0), (3, .v .pl (rxs (altL l))), (5, .pbox 5 0), (6, .v .pl (rxs (rOut ((altL l).take j)))), (7, .v .pl (bool (rEmp ((altL l).take j)))), (8, .v .pl (bool (rOth ((altL l).take j)))), (9, .v .pl (int j))], [(2, .box 25 [.v .pl (.sc (.int .i64 0)), .v .pl (.sc (.slice none 0 0)), .v .pl (.sc (.slice none 0 0))]), (5, .box 127 (bCells (rIs ((altL l).take j))))]⟩) ?_ ?_
  exact ⟨_, 0, rfl, Nat.zero_le _, rfl⟩
  rintro zm zs ⟨j, rfl, hL2_0, rfl⟩
  refine xA tb hM0 5 [2,3,5,6,7,8,9,39,40] [2,5] rfl ?_
  refine oP rfl (pure_lenm rfl Tryz.underlying23 rfl) ?_
  refine xA tb hM0 3 [2,3,5,6,7,8,9,42] [2,5] rfl ?_
  refine spC 42 rfl ?_ ?_ <;> intro h3 <;> try simp only [dq] at h3
  refine xA tb hM0 12 [2,3,5,6,7,8,9,10] [2,5] rfl ?_
  refine lp (fun zm zs => ∃ k : Nat, zm = ((altL l).getD j default).syms.length - k ∧ (k ≤ ((altL l).getD j default).syms.length) ∧ zs = ⟨128, [(2, .pbox 2 0), (3, .v .pl (rxs (altL l))), (5, .pbox 5 0), (6, .v .pl (rxs (rOut ((altL l).take j)))), (7, .v .pl (bool (rEmp ((altL l).take j)))), (8, .v .pl (bool (rOth ((altL l).take j)))), (9, .v .pl (int j)), (10, .v .pl (int k))], [(2, .box 25 [.v .pl (.sc (.int .i64 0)), .v .pl (.sc (.slice none 0 0)), .v .pl (.sc (.slice none 0 0))]), (5, .box 127 (bCells (rIsAt (altL l) j k)))]⟩) ?_ ?_
  refine ⟨_, 0, rfl, Nat.zero_le _, ?_⟩
  rw [rIsAt_0]; rfl
  rintro zm zs ⟨k, rfl, hL3_0, rfl⟩
  have hk1 := hsz j (by omega)
  have hk2 := hsy j
  refine xA tb hM0 6 [2,3,5,6,7,8,9,10,45,46,47] [2,5] rfl ?_
  refine oP rfl (pure_ix rfl Tryz.underlying23 sz25 rfl rfl (by omega) (fun _ => rfl)) ?_
  refine xA tb hM0 2 [2,3,5,6,7,8,9,10,45,50] [2,5] rfl ?_
  refine oP rfl (pure_lenm rfl Tryz.underlying22 rfl) ?_
  refine xA tb hM0 3 [2,3,5,6,7,8,9,10,52] [2,5] rfl ?_
  refine spC 52 rfl ?_ ?_ <;> intro h4 <;> try simp only [dq] at h4
  refine xA tb hM0 8 [2,3,5,6,7,8,9,10,55,56] [2,5] rfl ?_
  refine oP rfl (pure_ix rfl Tryz.underlying23 sz25 rfl rfl (by omega) (fun _ => rfl)) ?_
  refine xA tb hM0 3 [2,3,5,6,7,8,9,10,59,60] [2,5] rfl ?_
  refine oP rfl (pure_ix rfl Tryz.underlying22 sz3 rfl rfl (by omega) (fun _ => rfl)) ?_
  refine xA tb hM0 1 [2,3,5,6,7,8,9,10,62] [2,5] rfl ?_
  refine oP rfl (pure_index_box (n := 64) rfl Tryz.underlying127 sz4 rfl rfl rfl (hz j k (by omega) (by omega))) ?_
  refine oS rfl (step_bit (f := rIsAt (altL l) j k) (g := rIsAt (altL l) j (k + 1)) rfl rfl rfl sz4 rfl rfl rfl (by have := hz j k (by omega) (by omega); omega) (bCells_step 5 (by omega) (hz j k (by omega) (by omega))) hM0) rfl ?_
  refine xA tb hM0 5 [2,3,5,6,7,8,9,53] [2,5] rfl ?_
  refine oP rfl (pure_addi rfl rfl rfl (by omega)) ?_
  refine xA tb hM0 2 [2,3,5,6,7,8,9,10] [2,5] rfl ?_
  refine nx ?_
  exact ⟨_, ⟨k + 1, rfl, by omega, rfl⟩, by omega⟩
  refine xA tb hM0 10 [2,3,5,6,7,8,9,64,65] [2,5] rfl ?_
  refine oP rfl (pure_ix rfl Tryz.underlying23 sz25 rfl rfl (by omega) (fun _ => rfl)) ?_
  refine xA tb hM0 5 [2,3,5,6,7,8,9,69] [2,5] rfl ?_
  refine spC 69 rfl ?_ ?_ <;> intro h5 <;> try simp only [dq] at h5
  refine xA tb hM0 8 [2,3,5,6,7,8,43] [2,5] rfl ?_
  refine oP rfl (pure_addi rfl rfl rfl (by omega)) ?_
  refine xA tb hM0 2 [2,3,5,6,7,8,9] [2,5] rfl ?_
  refine nx ?_; rotate_left
  refine xA tb hM0 5 [2,3,5,6,7,8,9,70,71] [2,5] rfl ?_
  refine oP rfl (pure_ix rfl Tryz.underlying23 sz25 rfl rfl (by omega) (fun _ => rfl)) ?_
  refine xA tb hM0 5 [2,3,5,6,7,8,9,75] [2,5] rfl ?_
  refine spC 75 rfl ?_ ?_ <;> intro h6 <;> try simp only [dq] at h6
  refine xA tb hM0 6 [2,3,5,7,8,9,76,77,78] [2,5] rfl ?_
  refine oP rfl (pure_ix rfl Tryz.underlying23 sz25 rfl rfl (by omega) (fun _ => rfl)) ?_
  refine xA tb hM0 1 [2,3,5,7,8,9,76,80] [2,5] rfl ?_
  refine oP rfl (pure_callN rfl rfl rfl rfl (rput_call (l := rOut ((altL l).take j)) (x := ((altL l).getD j default)) (by have := hro j; omega) (by have := hsz j (by omega); omega)) hM0) ?_
  refine xA tb hM0 6 [2,3,5,6,7,9,83] [2,5] rfl ?_
  refine spO 83 rfl ?_ ?_ <;> intro h7' <;> try simp only [dq] at h7'
  refine xA tb hM0 12 [2,3,5,6,7,8,43] [2,5] rfl ?_
  refine oP rfl (pure_addi rfl rfl rfl (by omega)) ?_
  refine xA tb hM0 2 [2,3,5,6,7,8,9] [2,5] rfl ?_
  refine nx ?_; rotate_left
  refine xA tb hM0 2 [2,3,5,6,7,9,83,84,85] [2,5] rfl ?_
  refine oP rfl (pure_ix rfl Tryz.underlying23 sz25 rfl rfl (by omega) (fun _ => rfl)) ?_
  refine xA tb hM0 1 [2,3,5,6,7,9,83,87] [2,5] rfl ?_
  refine oP rfl (pure_call rfl rfl rfl (racc_call _ ((altL l).getD j default) (Nat.le_refl _) (by have := hsz j (by omega); omega)) hM0) ?_
  refine xA tb hM0 7 [2,3,5,6,7,8,43] [2,5] rfl ?_
  refine oP rfl (pure_addi rfl rfl rfl (by omega)) ?_
  refine xA tb hM0 2 [2,3,5,6,7,8,9] [2,5] rfl ?_
  refine nx ?_; rotate_left
  refine xA tb hM0 6 [2,3,5,6,7,8,43] [2,5] rfl ?_
  refine oP rfl (pure_addi rfl rfl rfl (by omega)) ?_
  refine xA tb hM0 2 [2,3,5,6,7,8,9] [2,5] rfl ?_
  refine nx ?_; rotate_left
  refine xA tb hM0 7 [2,5,6,7,8] [2,5] rfl ?_
  rw [show (altL l).take j = (altL l) from List.take_of_length_le (by omega)]
  refine xA tb hM0 1 [2,5,6,7,8] [2,5] rfl ?_
  refine oS rfl (step_nil rfl rfl rfl rfl rfl 3 hM0) rfl ?_
  refine xA tb hM0 9 [2,5,6,7,8,11,12] [2,5,11] rfl ?_
  refine lp (fun zm zs => ∃ v : Nat, zm = 64 - v ∧ (v ≤ 64) ∧ zs = ⟨128, [(2, .pbox 2 0), (5, .pbox 5 0), (6, .v .pl (rxs (rOut (altL l)))), (7, .v .pl (bool (rEmp (altL l)))), (8, .v .pl (bool (rOth (altL l)))), (11, .own 11), (12, .v .pl (int v))], [(2, .box 25 [.v .pl (.sc (.int .i64 0)), .v .pl (.sc (.slice none 0 0)), .v .pl (.sc (.slice none 0 0))]), (5, .box 127 (bCells (rIs (altL l)))), (11, .arr 3 ((rSyms (altL l) v).map int))]⟩) ?_ ?_
  exact ⟨_, 0, rfl, Nat.zero_le _, rfl⟩
  rintro zm zs ⟨v, rfl, hL4_0, rfl⟩
  have hv1 := rSyms_len (altL l) v
  refine xA tb hM0 7 [2,5,6,7,8,11,12,91] [2,5,11] rfl ?_
  refine spC 91 rfl ?_ ?_ <;> intro h8 <;> try simp only [dq] at h8
  refine xA tb hM0 8 [2,5,6,7,8,11,12,94] [2,5,11] rfl ?_
  refine oP rfl (pure_index_box (n := 64) rfl Tryz.underlying127 sz4 rfl rfl rfl (by omega)) ?_
  refine oP rfl (pure_load_box rfl ag4 rfl rfl (bCells_at (f := rIs (altL l)) (v := v) (by omega))) ?_
  refine xA tb hM0 2 [2,5,6,7,8,11,12,96] [2,5,11] rfl ?_
  refine spC 96 rfl ?_ ?_ <;> intro h9 <;> try simp only [dq] at h9
  refine xA tb hM0 4 [2,5,6,7,8,12,97,98] [2,5,11] rfl ?_
  refine oP rfl (pure_lit rfl Tryz.underlying22 el3 rfl rfl rfl rfl hM0) ?_
  refine oS rfl (step_append rfl rfl rfl rfl Tryz.underlying22 el3 rfl rfl hM0 (src_pl rfl (one_len (by rfl))) (by first | (simp only [ll]; omega) | omega) (by first | (simp only [ll]; omega) | omega)) rfl ?_
  refine xA tb hM0 6 [2,5,6,7,8,11,92] [2,5,11] rfl ?_
  refine oP rfl (pure_addi rfl rfl rfl (by omega)) ?_
  refine xA tb hM0 2 [2,5,6,7,8,11,12] [2,5,11] rfl ?_
  refine nx ?_; rotate_left
  refine xA tb hM0 6 [2,5,6,7,8,11,92] [2,5,11] rfl ?_
  refine oP rfl (pure_addi rfl rfl rfl (by omega)) ?_
  refine xA tb hM0 2 [2,5,6,7,8,11,12] [2,5,11] rfl ?_
  refine nx ?_; rotate_left
  refine xA tb hM0 6 [2,6,7,8,11] [2,11] rfl ?_
  refine ct (fun zs => zs = ⟨128, [(2, .pbox 2 0), (6, .v .pl (rxs (rAlt2 (altL l)))), (7, .v .pl (bool (rEmp (altL l)))), (8, .v .pl (bool (rOth (altL l))))], [(2, .box 25 [.v .pl (.sc (.int .i64 0)), .v .pl (.sc (.slice none 0 0)), .v .pl (.sc (.slice none 0 0))])]⟩) ?_ ?_
  refine xA tb hM0 1 [2,6,7,8,11] [2,11] rfl ?_
  refine code_frz 128 [(2, _), (6, _), (7, _), (8, _), (11, _)] [(2, _)] hM0 rfl ⟨.inl rfl, .inl rfl, .inl rfl, .inl rfl, .inr ⟨_, _, rfl, rfl, rfl⟩, trivial⟩ ⟨rfl, trivial⟩ ?_
  have ev : v = 64 := by omega
  subst ev
  refine xK tb hM0 2 [2,6,7,8,11,101] [2] rfl ?_
  refine oP rfl (pure_lenm rfl Tryz.underlying22 rfl) ?_
  refine xA tb hM0 3 [2,6,7,8,11,103] [2] rfl ?_
  refine spC 103 rfl ?_ ?_ <;> intro h10 <;> try simp only [dq] at h10
  refine xA tb hM0 4 [2,7,8,104,105] [2] rfl ?_
  refine oP rfl (pure_callN rfl rfl rfl rfl (one_call (rSyms (altL l) 64)) hM0) ?_
  refine oP rfl (pure_callN rfl rfl rfl rfl (rput_call (l := rOut (altL l)) (x := .mk 2 (rSyms (altL l) 64) []) (by have := sizes_out (altL l); omega) (by omega)) hM0) ?_
  refine xA tb hM0 2 [2,6,7,8] [2] rfl ?_
  refine cx ?_; rotate_left
  refine xA tb hM0 2 [2,6,7,8] [2] rfl ?_
  refine cx ?_; rotate_left
  rintro zs ⟨rfl⟩
  refine ct (fun zs => zs = ⟨128, [(2, .pbox 2 0), (6, .v .pl (rxs (rAlt3 (altL l))))], [(2, .box 25 [.v .pl (.sc (.int .i64 0)), .v .pl (.sc (.slice none 0 0)), .v .pl (.sc (.slice none 0 0))])]⟩) ?_ ?_
  refine xA tb hM0 4 [2,6,8,109] [2] rfl ?_
  refine spO 109 rfl ?_ ?_ <;> intro h11' <;> try simp only [dq] at h11'
  refine xA tb hM0 5 [2,6,112] [2] rfl ?_
  refine spC 112 rfl ?_ ?_ <;> intro h12 <;> try simp only [dq] at h12
  refine xA tb hM0 3 [2,113] [2] rfl ?_
  refine oP rfl (pure_norm (pure_build rfl pl25 ze25 rfl rfl rfl) rfl) ?_
  refine oP rfl (pure_callN rfl rfl rfl rfl (rput_call (l := rAlt2 (altL l)) (x := emptyRx) (by omega) (by decide)) hM0) ?_
  refine xA tb hM0 2 [2,6] [2] rfl ?_
  refine cx ?_; rotate_left
  refine xA tb hM0 2 [2,6] [2] rfl ?_
  refine cx ?_; rotate_left
  refine xA tb hM0 7 [2,6] [2] rfl ?_
  refine cx ?_; rotate_left
  rintro zs ⟨rfl⟩
  refine xA tb hM0 4 [2,6,116] [2] rfl ?_
  refine oP rfl (pure_lenm rfl Tryz.underlying23 rfl) ?_
  refine xA tb hM0 3 [2,6,118] [2] rfl ?_
  refine spC 118 rfl ?_ ?_ <;> intro h13 <;> try simp only [dq] at h13
  refine xA tb hM0 3 [2] [2] rfl ?_
  refine oP rfl (pure_norm (pure_build rfl pl25 ze25 rfl rfl rfl) rfl) ?_
  refine xA tb hM0 5 [] [] rfl ?_
  refine endC_ret rfl ?_; rotate_left
  refine xA tb hM0 7 [2,6,120] [2] rfl ?_
  refine oP rfl (pure_lenm rfl Tryz.underlying23 rfl) ?_
  refine xA tb hM0 3 [2,6,122] [2] rfl ?_
  refine spC 122 rfl ?_ ?_ <;> intro h14 <;> try simp only [dq] at h14
  refine xA tb hM0 4 [2,123] [2] rfl ?_
  refine oP rfl (pure_ix rfl Tryz.underlying23 sz25 rfl rfl (by omega) (fun _ => rfl)) ?_
  refine xA tb hM0 6 [] [] rfl ?_
  refine endC_ret rfl ?_; rotate_left
  refine xA tb hM0 6 [2,126] [2] rfl ?_
  refine oP rfl (pure_callN rfl rfl rfl rfl (of_call 4 (rAlt3 (altL l))) hM0) ?_
  refine xA tb hM0 4 [] [] rfl ?_
  refine endC_ret rfl ?_; rotate_left
  all_goals first
   | (
     exact ⟨_, ⟨i + 1, rfl, by omega, by rw [altL_succ (by omega)]; first | (rw [altF_4 (by omega), List.map_append]; rfl) | (rw [altF_x (by omega), List.map_append]; rfl)⟩, by omega⟩; done)
   | (
     exact ⟨_, ⟨j + 1, rfl, by omega, by rw [rIs_next (j := j) (k := k) (by omega) (by omega)]; first | (rw [rOut_1 (by omega) (by omega), rOth_1 (by omega) (by omega), rEmp_1 (by omega) (by omega)]; rfl) | (rw [rOut_0 (by omega) (by omega) (by omega), rOth_0 (by omega) (by omega) (by omega), rEmp_0 (by omega) (by omega)]; rfl) | (rw [rOut_x (by omega) (by omega), rOth_t (by omega) (by omega) (by assumption), rEmp_0 (by omega) (by omega)]; rfl) | (rw [rOut_x (by omega) (by omega), rOth_f (by omega) (by omega) (by assumption), rEmp_0 (by omega) (by omega)]; rfl)⟩, by omega⟩; done)
   | (
     exact ⟨_, ⟨v + 1, rfl, by omega, by first | (rw [rSyms_t (by assumption), List.map_append]; rfl) | (rw [rSyms_f (by assumption)]; rfl)⟩, by omega⟩; done)
   | (
     first | (rw [rAlt2_t (by omega)]; first | done | rfl) | (rw [rAlt2_f (by omega)]; first | done | rfl); done)
   | (
     first | (rw [rAlt3_t (by assumption) (by assumption)]; first | done | rfl) | (rw [rAlt3_e (by assumption)]; first | done | rfl) | (rw [rAlt3_o (by assumption)]; first | done | rfl); done)
   | (
     first
       | (rw [show rAlt l = _ from altE_0 (k := rAlt3 (altL l)) (by omega)]; first | done | rfl)
       | (rw [show rAlt l = _ from altE_1 (k := rAlt3 (altL l)) (by omega)]; first | done | rfl)
       | (rw [show rAlt l = _ from altE_2 (k := rAlt3 (altL l)) (by omega) (by omega)]; first | done | rfl); done)
end Go.Proofs.YtgdehkimfmfofaaGreat

namespace Go.Proofs.YtgdehkimfmfofaaGreat
open Go.Am Go.Wb
set_option linter.unusedVariables false
set_option linter.unusedSimpArgs false
theorem fn83 : FnC Tryz.prog 83 Tryz.f83.ntmps 2 25 3 (Tryz.f83.body.getD .skip) := ⟨Tryz.f83, Tryz.func83, rfl, rfl, rfl, by kernel_rfl, ag25, sz25⟩
set_option maxRecDepth 100000 in
set_option maxHeartbeats 4000000 in
theorem rstar_call {x : Rx} (hn : Nf x) (hs : x.size ≤ 274877906944) : CallN Tryz.prog 83 [rx x] (.p (rx (rStar x))) := by
  have hk := kids_len x
  have he := size_eq x
  have hf := sizes_filter no1 x.kids
  have hfn : ∀ y ∈ x.kids.filter no1, y ∈ x.kids := fun y hy => (List.mem_filter.1 hy).1
  have hkn : ∀ y ∈ x.kids.filter no1, Nf y := fun y hy => Nf.kids hn (hfn y hy)
  rw [rx_eq x]
  refine callN_of_codeC fn83 (Nat.le_of_ble_eq_true rfl) fun w0 M0 hM0 => ?_
  refine xC tb hM0 2 [0] [] rfl ?_
  refine oS rfl (step_box rfl rfl rfl rfl rfl rfl rfl (by decide) hM0) rfl ?_
  refine xA tb hM0 10 [1,2,8] [1,2] rfl ?_
  refine spO 8 rfl ?_ ?_ <;> intro h1' <;> try simp only [dq] at h1'
  refine xA tb hM0 15 [] [] rfl ?_
  refine endC_ret rfl ?_; rotate_left
  refine xA tb hM0 6 [1,2,12] [1,2] rfl ?_
  refine spC 12 rfl ?_ ?_ <;> intro h2 <;> try simp only [dq] at h2
  refine xA tb hM0 9 [] [] rfl ?_
  refine endC_ret rfl ?_; rotate_left
  refine xA tb hM0 11 [1,2,16] [1,2] rfl ?_
  refine spC 16 rfl ?_ ?_ <;> intro h3 <;> try simp only [dq] at h3
  refine xA tb hM0 9 [] [] rfl ?_
  refine endC_ret rfl ?_; rotate_left
  refine xA tb hM0 3 [1,2] [1,2] rfl ?_
  refine ct (fun zs => zs = ⟨48, [(1, .pbox 1 0), (2, .pbox 2 0)], [(1, .box 25 [.v .pl (int ((rStarB x)).kind), .v .pl (ints ((rStarB x)).syms), .v .pl (.sl (Rx.avs ((rStarB x)).kids))]), (2, .box 25 [.v .pl (.sc (.int .i64 0)), .v .pl (.sc (.slice none 0 0)), .v .pl (.sc (.slice none 0 0))])]⟩) ?_ ?_
  refine xA tb hM0 7 [1,2,20] [1,2] rfl ?_
  refine spC 20 rfl ?_ ?_ <;> intro h4 <;> try simp only [dq] at h4
  refine xA tb hM0 3 [1,2] [1,2] rfl ?_
  refine oS rfl (step_nil rfl rfl rfl rfl rfl 25 hM0) rfl ?_
  refine xA tb hM0 9 [1,2,3,4] [1,2,3] rfl ?_
  refine lp (fun zm zs => ∃ i : Nat, zm = x.kids.length - i ∧ (i ≤ x.kids.length) ∧ zs = ⟨48, [(1, .pbox 1 0), (2, .pbox 2 0), (3, .own 3), (4, .v .pl (int i))], [(1, .box 25 [.v .pl (int (x).kind), .v .pl (ints (x).syms), .v .pl (rxs (x).kids)]), (2, .box 25 [.v .pl (.sc (.int .i64 0)), .v .pl (.sc (.slice none 0 0)), .v .pl (.sc (.slice none 0 0))]), (3, .arr 25 (((x.kids.take i).filter no1).map rx))]⟩) ?_ ?_
  exact ⟨_, 0, rfl, Nat.zero_le _, rfl⟩
  rintro zm zs ⟨i, rfl, hL1_0, rfl⟩
  have hb1 := sizes_filter no1 (x.kids.take i)
  have hb2 := sizes_take_le x.kids i
  have hb3 := sizes_len ((x.kids.take i).filter no1)
  refine xA tb hM0 6 [1,2,3,4,21,23] [1,2,3] rfl ?_
  refine oP rfl (pure_lenm rfl Tryz.underlying23 rfl) ?_
  refine xA tb hM0 3 [1,2,3,4,25] [1,2,3] rfl ?_
  refine spC 25 rfl ?_ ?_ <;> intro h5 <;> try simp only [dq] at h5
  refine xA tb hM0 10 [1,2,3,4,29,30] [1,2,3] rfl ?_
  refine oP rfl (pure_ix rfl Tryz.underlying23 sz25 rfl rfl (by omega) (fun _ => rfl)) ?_
  refine xA tb hM0 5 [1,2,3,4,34] [1,2,3] rfl ?_
  refine spC 34 rfl ?_ ?_ <;> intro h6 <;> try simp only [dq] at h6
  refine xA tb hM0 6 [1,2,4,35,37,38] [1,2,3] rfl ?_
  refine oP rfl (pure_ix rfl Tryz.underlying23 sz25 rfl rfl (by omega) (fun _ => rfl)) ?_
  refine xA tb hM0 1 [1,2,4,35,40] [1,2,3] rfl ?_
  refine oP rfl (pure_lit rfl Tryz.underlying23 el25 rfl rfl rfl rfl hM0) ?_
  refine oS rfl (step_append rfl rfl rfl rfl Tryz.underlying23 el25 rfl rfl hM0 (src_pl rfl (one_len (by rfl))) (by first | (simp only [ll]; omega) | omega) (by first | (simp only [ll]; omega) | omega)) rfl ?_
  refine xA tb hM0 6 [1,2,3,26] [1,2,3] rfl ?_
  refine oP rfl (pure_addi rfl rfl rfl (by omega)) ?_
  refine xA tb hM0 2 [1,2,3,4] [1,2,3] rfl ?_
  refine nx ?_; rotate_left
  refine xA tb hM0 6 [1,2,3,26] [1,2,3] rfl ?_
  refine oP rfl (pure_addi rfl rfl rfl (by omega)) ?_
  refine xA tb hM0 2 [1,2,3,4] [1,2,3] rfl ?_
  refine nx ?_; rotate_left
  refine xA tb hM0 6 [1,2,3] [1,2,3] rfl ?_
  refine code_frz 48 [(1, _), (2, _), (3, _)] [(1, _), (2, _)] hM0 rfl ⟨.inl rfl, .inl rfl, .inr ⟨_, _, rfl, rfl, rfl⟩, trivial⟩ ⟨rfl, rfl, trivial⟩ ?_
  refine xK tb hM0 2 [1,2,43] [1,2] rfl ?_
  refine oP rfl (pure_callN rfl rfl rfl rfl (ralt_call (l := (x.kids.take i).filter no1) (by rw [show x.kids.take i = x.kids from List.take_of_length_le (by omega)]; exact hkn) (by have := sizes_filter no1 (x.kids.take i); have := sizes_take_le x.kids i; omega)) hM0) ?_
  refine xA tb hM0 2 [1,2] [1,2] rfl ?_
  refine cx ?_; rotate_left
  refine xA tb hM0 2 [1,2] [1,2] rfl ?_
  refine cx ?_; rotate_left
  rintro zs ⟨rfl⟩
  refine xA tb hM0 3 [2,45] [2] rfl ?_
  refine oP rfl (pure_lit rfl Tryz.underlying23 el25 rfl rfl rfl rfl hM0) ?_
  refine oP rfl (pure_callN rfl rfl rfl rfl (of_call 5 [rStarB x]) hM0) ?_
  refine xA tb hM0 4 [] [] rfl ?_
  refine endC_ret rfl ?_; rotate_left
  all_goals first
   | (
     first | (rw [rStar_e (by omega)]; first | done | rfl) | (rw [rStar_5 (by omega) (by omega), rx_eq]; first | done | rfl) | (rw [rStar_x (by omega) (by omega)]; first | done | rfl); done)
   | (
     exact ⟨_, ⟨i + 1, rfl, by omega, by first | (rw [filt_t (by omega) (no1_t (by omega)), List.map_append]; rfl) | (rw [filt_f (by omega) (no1_f (by omega))]; rfl)⟩, by omega⟩; done)
   | (
     first | (rw [rStarB_4 (by omega), show x.kids.filter (fun y => !decide (y.kind = 1)) = (x.kids.take i).filter no1 by rw [show x.kids.take i = x.kids from List.take_of_length_le (by omega)]]; first | done | rfl) | (rw [rStarB_x (by omega), avs_eq]; first | done | rfl); done)
theorem fn52 : FnC Tryz.prog 52 Tryz.f52.ntmps 4 25 3 (Tryz.f52.body.getD .skip) := ⟨Tryz.f52, Tryz.func52, rfl, rfl, rfl, by kernel_rfl, ag25, sz25⟩
set_option maxRecDepth 100000 in
set_option maxHeartbeats 4000000 in
theorem rnormal_call (t : Bool) : ∀ (m : Nat) (r : Rx), r.size ≤ m → m ≤ 137438953472 → validR r = true → CallN Tryz.prog 52 [rx r, bool t] (.p (rx (buildR t r))) := by
  intro m
  induction m with
  | zero => intro r hr; have := size_pos r; omega
  | succ m ih =>
  intro r hr hm hv
  have hk := kids_len r
  have he := size_eq r
  have hns := nrL_sizes t r
  have hnl := nrL_len t r
  have hvk := valid_kids hv
  rw [rx_eq r]
  refine callN_of_codeC fn52 (Nat.le_of_ble_eq_true rfl) fun w0 M0 hM0 => ?_
  refine xC tb hM0 2 [0,1] [] rfl ?_
  refine oP rfl (pure_box rfl rfl rfl hM0) ?_
  refine xA tb hM0 5 [1,2,4] [4] rfl ?_
  refine oS rfl (step_nil rfl rfl rfl rfl rfl 25 hM0) rfl ?_
  refine xA tb hM0 9 [1,2,4,5,6] [4,5] rfl ?_
  refine lp (fun zm zs => ∃ i : Nat, zm = r.kids.length - i ∧ (i ≤ r.kids.length) ∧ zs = ⟨56, [(1, .v .pl (bool t)), (2, .v .pl (rpc r)), (4, .pbox 4 0), (5, .own 5), (6, .v .pl (int i))], [(4, .box 25 [.v .pl (.sc (.int .i64 0)), .v .pl (.sc (.slice none 0 0)), .v .pl (.sc (.slice none 0 0))]), (5, .arr 25 (((nrL t r).take i).map rx))]⟩) ?_ ?_
  exact ⟨_, 0, rfl, Nat.zero_le _, rfl⟩
  rintro zm zs ⟨i, rfl, hL1_0, rfl⟩
  refine xA tb hM0 6 [1,2,4,5,6,8,10] [4,5] rfl ?_
  refine oP rfl (pure_lenm rfl Tryz.underlying23 rfl) ?_
  refine xA tb hM0 3 [1,2,4,5,6,12] [4,5] rfl ?_
  refine spC 12 rfl ?_ ?_ <;> intro h1 <;> try simp only [dq] at h1
  refine xA tb hM0 11 [1,2,4,5,6,7] [4,5] rfl ?_
  refine ct (fun zs => ∃ k : Nat, (k < r.kids.length) ∧ ((nrL t r).getD i default = buildR t (r.kids.getD k default)) ∧ zs = ⟨56, [(1, .v .pl (bool t)), (2, .v .pl (rpc r)), (4, .pbox 4 0), (5, .own 5), (6, .v .pl (int i)), (7, .v .pl (int k))], [(4, .box 25 [.v .pl (.sc (.int .i64 0)), .v .pl (.sc (.slice none 0 0)), .v .pl (.sc (.slice none 0 0))]), (5, .arr 25 (((nrL t r).take i).map rx))]⟩) ?_ ?_
  refine xA tb hM0 4 [1,2,4,5,6,7,17] [4,5] rfl ?_
  refine spO 17 rfl ?_ ?_ <;> intro h2' <;> try simp only [dq] at h2'
  refine xA tb hM0 6 [1,2,4,5,6,7,21] [4,5] rfl ?_
  refine spC 21 rfl ?_ ?_ <;> intro h3 <;> try simp only [dq] at h3
  refine xA tb hM0 4 [1,2,4,5,6,23] [4,5] rfl ?_
  refine oP rfl (pure_lenm rfl Tryz.underlying23 rfl) ?_
  refine oP rfl (pure_subi rfl rfl rfl (by omega)) ?_
  refine xA tb hM0 1 [1,2,4,5,6,25,26] [4,5] rfl ?_
  refine oP rfl (pure_subi rfl rfl rfl (by omega)) ?_
  refine xA tb hM0 2 [1,2,4,5,6,7] [4,5] rfl ?_
  refine cx ?_; rotate_left
  refine xA tb hM0 2 [1,2,4,5,6,7] [4,5] rfl ?_
  refine cx ?_; rotate_left
  refine xA tb hM0 8 [1,2,4,5,6,7] [4,5] rfl ?_
  refine cx ?_; rotate_left
  rintro zs ⟨k, hC8_0, hC8_1, rfl⟩
  refine xA tb hM0 5 [1,2,4,6,28,30,31] [4,5] rfl ?_
  refine oP rfl (pure_ix rfl Tryz.underlying23 sz25 rfl rfl (by omega) (fun _ => rfl)) ?_
  refine xA tb hM0 2 [1,2,4,6,28,33,34] [4,5] rfl ?_
  refine oP rfl (pure_callN rfl rfl rfl rfl (ih (r.kids.getD k default) (Nat.le_of_lt_succ (Nat.lt_of_lt_of_le (kid_lt (by omega)) hr)) (by omega) (hvk _ (kid_mem (by omega)))) hM0) ?_
  refine oP rfl (pure_lit rfl Tryz.underlying23 el25 rfl rfl rfl rfl hM0) ?_
  refine xA tb hM0 0 [1,2,4,6,28,36] [4,5] rfl ?_
  refine oS rfl (step_append rfl rfl rfl rfl Tryz.underlying23 el25 rfl rfl hM0 (src_pl rfl (one_len (by rfl))) (by first | (simp only [ll]; omega) | omega) (by first | (simp only [ll]; omega) | omega)) rfl ?_
  refine xA tb hM0 6 [1,2,4,5,13] [4,5] rfl ?_
  refine oP rfl (pure_addi rfl rfl rfl (by omega)) ?_
  refine xA tb hM0 2 [1,2,4,5,6] [4,5] rfl ?_
  refine nx ?_
  exact ⟨_, ⟨i + 1, rfl, by omega, by rw [take_succ' (l := nrL t r) (by omega), List.map_append, hC8_1]; rfl⟩, by omega⟩
  refine xA tb hM0 8 [2,4,5] [4,5] rfl ?_
  refine code_frz 56 [(2, _), (4, _), (5, _)] [(4, _)] hM0 rfl ⟨.inl rfl, .inl rfl, .inr ⟨_, _, rfl, rfl, rfl⟩, trivial⟩ ⟨rfl, trivial⟩ ?_
  rw [show (nrL t r).take i = nrL t r from List.take_of_length_le (by omega)]
  refine xK tb hM0 6 [2,4,5,40] [4] rfl ?_
  refine spC 40 rfl ?_ ?_ <;> intro h4 <;> try simp only [dq] at h4
  refine xA tb hM0 4 [4,41] [4] rfl ?_
  refine oP rfl (pure_callN rfl rfl rfl rfl (rseq_call (l := nrL t r) (by omega)) hM0) ?_
  refine xA tb hM0 5 [] [] rfl ?_
  refine endC_ret rfl ?_; rotate_left
  refine xA tb hM0 11 [2,4,5,45] [4] rfl ?_
  refine spC 45 rfl ?_ ?_ <;> intro h5 <;> try simp only [dq] at h5
  refine xA tb hM0 4 [4,46] [4] rfl ?_
  refine oP rfl (pure_callN rfl rfl rfl rfl (ralt_call (l := nrL t r) (nrL_nf hv) (by omega)) hM0) ?_
  refine xA tb hM0 5 [] [] rfl ?_
  refine endC_ret rfl ?_; rotate_left
  refine xA tb hM0 11 [2,4,5,50] [4] rfl ?_
  refine spC 50 rfl ?_ ?_ <;> intro h6 <;> try simp only [dq] at h6
  refine xA tb hM0 4 [4,51] [4] rfl ?_
  refine oP rfl (pure_ix rfl Tryz.underlying23 sz25 rfl rfl (by have := (valid_5 hv (by omega)).2; omega) (fun _ => rfl)) ?_
  refine xA tb hM0 1 [4,53] [4] rfl ?_
  refine oP rfl (pure_callN rfl rfl rfl rfl (rstar_call (x := (nrL t r).getD 0 default) (nrL_nf hv _ (kid_mem (by have := (valid_5 hv (by omega)).2; omega))) (by have := size_mem (kid_mem (l := nrL t r) (i := 0) (by have := (valid_5 hv (by omega)).2; omega)); omega)) hM0) ?_
  refine xA tb hM0 5 [] [] rfl ?_
  refine endC_ret rfl ?_; rotate_left
  refine xA tb hM0 10 [] [] rfl ?_
  refine endC_ret rfl ?_; rotate_left
  all_goals first
   | (
     first | exact ⟨i, by omega, nrL_f (by simp_all) (by omega), rfl⟩ | exact ⟨r.kids.length - 1 - i, by omega, nrL_t (by assumption) (by omega) (by omega) (by omega), by rw [show ((r.kids.length - 1 - i : Nat) : Int) = (r.kids.length : Int) - 1 - i by omega]; first | done | rfl⟩; done)
   | (
     first | (rw [nr_3 (by omega)]; first | done | rfl) | (rw [nr_4 hv (by omega)]; first | done | rfl) | (rw [nr_5 hv (by omega)]; first | done | rfl) | (rw [nr_x hv (by omega) (by omega) (by omega), rx_eq]; first | done | rfl); done)
theorem fn20 : FnC Tryz.prog 20 Tryz.f20.ntmps 2 25 3 (Tryz.f20.body.getD .skip) := ⟨Tryz.f20, Tryz.func20, rfl, rfl, rfl, by kernel_rfl, ag25, sz25⟩
set_option maxRecDepth 100000 in
set_option maxHeartbeats 1000000 in
theorem rsimple_call {r : Rx} (h : r.size ≤ 137438953472) : CallN Tryz.prog 20 [rx r] (.p (rx (simR r))) := by
  refine callN_of_codeC fn20 (Nat.le_of_ble_eq_true rfl) fun w0 M0 hM0 => ?_
  refine xC tb hM0 2 [0] [] rfl ?_
  refine oP rfl (pure_box rfl rfl rfl hM0) ?_
  refine xA tb hM0 7 [1,2,3] [2] rfl ?_
  refine oP rfl (pure_call rfl rfl rfl (rvalid_call _ r (Nat.le_refl _) (by omega)) hM0) ?_
  refine xA tb hM0 3 [1,2,5] [2] rfl ?_
  refine spC 5 rfl ?_ ?_ <;> intro h1 <;> try simp only [dq] at h1
  refine xA tb hM0 9 [] [] rfl ?_
  refine endC_ret rfl ?_; rotate_left
  refine xA tb hM0 6 [2,7] [2] rfl ?_
  refine oP rfl (pure_callN rfl rfl rfl rfl (rnormal_call false _ r (Nat.le_refl _) h (by assumption)) hM0) ?_
  refine xA tb hM0 4 [] [] rfl ?_
  refine endC_ret rfl ?_; rotate_left
  all_goals
    first | (rw [show simR r = noneRx from if_neg (by simp_all)]; first | done | rfl) | (rw [show simR r = buildR false r from if_pos (by assumption)]; first | done | rfl)
end Go.Proofs.YtgdehkimfmfofaaGreat

namespace Go.Proofs.YtgdehkimfmfofaaGreat
open Go.Am Go.Wb Go.Wc
set_option linter.unusedVariables false
set_option linter.unusedSimpArgs false
theorem fn127 : Fn1 Tryz.prog 127 Tryz.f127.ntmps 4 (Tryz.f127.body.getD .skip) := ⟨Tryz.f127, Tryz.func127, rfl, rfl, rfl, by kernel_rfl⟩
set_option maxRecDepth 100000 in
set_option maxHeartbeats 1000000 in
theorem rbegins_call {s t : List UInt8} : CallF Tryz.prog 127 [sbytes s, sbytes t] (.p (bool (preB s t))) := by
  refine callF_of_code fn127 (Nat.le_of_ble_eq_true rfl) fun w0 M0 hM0 => ?_
  refine xC tb hM0 8 [0,1,5] [] rfl ?_
  refine oP rfl (pure_slen rfl Tryz.underlying9 rfl) ?_
  refine xA tb hM0 1 [0,1,6,7] [] rfl ?_
  refine oP rfl (pure_slen rfl Tryz.underlying9 rfl) ?_
  refine xA tb hM0 2 [0,1,10] [] rfl ?_
  refine spO 10 rfl ?_ ?_ <;> intro h1' <;> try simp only [dq] at h1'
  refine xA tb hM0 2 [1,10,11,12] [] rfl ?_
  refine oP rfl (pure_slen rfl Tryz.underlying9 rfl) ?_
  refine oP rfl (pure_sslice_h rfl Tryz.underlying9 rfl rfl (by omega)) ?_
  refine xA tb hM0 1 [10,14,15] [] rfl ?_
  refine oP rfl (pure_seql rfl rfl rfl) ?_
  refine xA tb hM0 5 [] [] rfl ?_
  refine end_ret rfl ?_; rotate_left
  refine xA tb hM0 11 [] [] rfl ?_
  refine end_ret rfl ?_; rotate_left
  all_goals
    first | (rw [preB_f (by omega)]; first | done | rfl) | (rw [preB_t (by omega)]; first | done | rfl)
end Go.Proofs.YtgdehkimfmfofaaGreat

