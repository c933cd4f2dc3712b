/-
  Contracts: sorting integers, sorting and reversing expressions.
-/
import Derived.Test.YtjimlkpfmbachaaJ29
import Derived.Test.YtjimlkpfmbachaaJ18
import Derived.Test.YtjimlkpfmbachaaJ27
import Derived.Test.YtjimlkpfmbachaaJ21
import Derived.Test.YtjimlkpfmbachaaJ24
import Derived.Test.YtjimlkpfmbachaaJ25
import Derived.Test.YtjimlkpfmbachaaJ20
import Derived.Test.YtjimlkpfmbachaaJ26
set_option linter.unusedVariables false
set_option linter.unusedSectionVars false
set_option linter.unusedSimpArgs false
namespace Go.Proofs.Ytjimlkpfmbachaa
open Go.Am Go.Wc Go.Wb Go.Wd
set_option linter.unusedVariables false
set_option linter.unusedSimpArgs false
theorem fn19 : FnC2 Try.prog 19 Try.f19.ntmps 8 26 3 9 (Try.f19.body.getD .skip) := ⟨Try.f19, Try.func19, rfl, rfl, rfl, by kernel_rfl, ag26, sz26⟩
set_option maxRecDepth 100000 in
set_option maxHeartbeats 8000000 in
theorem exploreI_call {next : Nat → Nat → Nat} {final : Nat → Bool} {size start N : Nat} {sz : Int} {U : List Nat} {g h : FuncId} {cg ch : List AV} (hsz : 1 ≤ size ∧ size ≤ 64) (hU : ∀ x ∈ U, ∀ s, s < size → next x s ∈ U) (h0 : start ∈ U) (hN : U.length ≤ N) (hB : U.length ≤ 2048) (hz : (size : Int) = sz)
    (hg : ∀ x ∈ U, ∀ s, s < size → CallF Try.prog g ([natI x, natI s] ++ cg) (.p (natI (next x s)))) (hh : ∀ x ∈ U, CallF Try.prog h ([natI x] ++ ch) (.p (bool (final x)))) :
    CallF Try.prog 19 [natI start, int sz, .clo g cg, .clo h ch] (.p (.tup [dfa (mkD next size final (reach next size N start)), bool true])) := by
  subst hz
  refine callF_of_codeC2 fn19 (Nat.le_of_ble_eq_true rfl) fun w0 M0 hM0 => ?_
  refine xC tb hM0 16 [0,1,2,3,8,10] [8,10] rfl ?_
  refine oS rfl (step_map rfl rfl rfl rfl rfl Try.underlying65 (fun q hq => by cases hq <;> exact ⟨_, _, rfl⟩) hM0) rfl ?_
  refine xA tb hM0 1 [0,1,2,3,8,10,21,22] [8,10,21] rfl ?_
  refine oS rfl (step_insert rfl (step_put rfl rfl rfl Try.underlying65 Try.underlying3 rfl rfl rfl rfl rfl (fun q hq => by cases hq) hM0)) rfl ?_
  refine xA tb hM0 7 [1,2,3,8,10,11,24] [8,10,21] rfl ?_
  refine oS rfl (step_lit rfl rfl rfl rfl Try.underlying22 el3 rfl rfl rfl rfl hM0) rfl ?_
  refine xA tb hM0 5 [1,2,3,8,10,11,12] [8,10,21,25] rfl ?_
  refine code_nilown 10 1 41 22 26 hM0 rfl rfl rfl rfl ?_
  refine code_nilown 10 2 42 4 26 hM0 rfl rfl rfl rfl ?_
  refine xK tb hM0 5 [1,2,3,8,10,11,12,13] [8,10,21,25,41,42] rfl ?_
  refine lp (fun zm zs => ∃ (l : List Nat) (i : Nat), zm = N + 1 - i ∧ (Ex next size U start N l i) ∧ zs = ⟨89, [(1, .v .mx (natI size)), (2, .v .mx (.clo g cg)), (3, .v .mx (.clo h ch)), (8, .pbox 8 0), (10, .pbox 10 0), (11, .omap 21), (12, .own 25), (13, .v .pl (int i))], [(8, .box 26 [.v .pl (.sc (.int .i64 0)), .v .pl (.sc (.slice none 0 0)), .v .pl (.sc (.slice none 0 0))]), (10, .box 26 [.v .pl (natI size), .own 41, .own 42]), (21, .mp (l.map kvN) (vsC l.length)), (25, .arr 3 (l.map natI)), (41, .arr 22 ((rowsX next size l (l.take i)).map ints)), (42, .arr 4 ((finX final (l.take i)).map bool))]⟩) ?_ ?_
  refine ⟨_, [start], 0, rfl, ex_start h0, ?_⟩
  rw [← put_k0, ← put_v0 (kv := kvN) start]; rfl
  rintro zm zs ⟨l, i, rfl, hL1_0, rfl⟩
  have hle := hL1_0.le
  refine xA tb hM0 5 [1,2,3,8,10,11,12,13,26,27] [8,10,21,25,41,42] rfl ?_
  refine oP rfl (pure_lenm rfl Try.underlying22 rfl) ?_
  refine xA tb hM0 3 [1,2,3,8,10,11,12,13,29] [8,10,21,25,41,42] rfl ?_
  refine spC 29 rfl ?_ ?_ <;> intro h1 <;> try simp only [dq] at h1
  refine xA tb hM0 8 [1,2,3,8,10,11,12,13,32] [8,10,21,25,41,42] rfl ?_
  refine oS rfl (step_make rfl rfl rfl rfl Try.underlying22 el3 ze3 rfl rfl rfl (by omega) (by omega) (by omega) hM0) rfl ?_
  refine xA tb hM0 7 [1,2,3,8,10,11,12,13,14,34] [8,10,21,25,33,41,42] rfl ?_
  refine oP rfl (pure_toi (a' := (size : Int)) (pure_len rfl Try.underlying22 rfl) (by simp)) ?_
  refine xA tb hM0 4 [1,2,3,8,10,11,12,13,14,35,36] [8,10,21,25,33,41,42] rfl ?_
  have hi : i < l.length := by omega
  have hxU := hL1_0.met.sub _ (el_mem hi)
  refine lp (fun zm zs => ∃ s : Nat, zm = size - s ∧ (s ≤ size) ∧ zs = ⟨89, [(1, .v .mx (natI size)), (2, .v .mx (.clo g cg)), (3, .v .mx (.clo h ch)), (8, .pbox 8 0), (10, .pbox 10 0), (11, .omap 21), (12, .own 25), (13, .v .pl (int i)), (14, .own 33), (35, .v .pl (natI size)), (36, .v .pl (int s))], [(8, .box 26 [.v .pl (.sc (.int .i64 0)), .v .pl (.sc (.slice none 0 0)), .v .pl (.sc (.slice none 0 0))]), (10, .box 26 [.v .pl (natI size), .own 41, .own 42]), (21, .mp ((grow next (l.getD i default) l s).map kvN) (vsC (grow next (l.getD i default) l s).length)), (25, .arr 3 ((grow next (l.getD i default) l s).map natI)), (33, .arr 3 ((rB next size (l.getD i default) l s).map int)), (41, .arr 22 ((rowsX next size l (l.take i)).map ints)), (42, .arr 4 ((finX final (l.take i)).map bool))]⟩) ?_ ?_
  refine ⟨_, 0, rfl, Nat.zero_le _, ?_⟩
  rw [rB_zero, ← rep_mapI]; rfl
  rintro zm zs ⟨s, rfl, hL2_0, rfl⟩
  have hgl := grow_le hL1_0.met hU hxU hL2_0
  refine xA tb hM0 6 [1,2,3,8,10,11,12,13,14,35,36,37] [8,10,21,25,33,41,42] rfl ?_
  refine spC 37 rfl ?_ ?_ <;> intro h2 <;> try simp only [dq] at h2
  refine xA tb hM0 16 [1,2,3,8,10,11,12,13,14,15,35,36,39,40,41] [8,10,21,25,33,41,42] rfl ?_
  refine oP rfl (pure_index_own rfl Try.underlying22 sz3 rfl rfl rfl (by rw [List.length_map]; have := grow_len (next := next) (x := l.getD i default) (l := l) s; omega)) ?_
  refine oP rfl (pure_load_pel rfl ag3 rfl rfl (mget (by have := grow_len (next := next) (x := l.getD i default) (l := l) s; omega)) rfl) ?_
  refine xA tb hM0 1 [1,2,3,8,10,11,12,13,14,15,35,36,39,43,44] [8,10,21,25,33,41,42] rfl ?_
  refine oP rfl (pure_call rfl rfl rfl (by have e : (grow next (l.getD i default) l s).getD (i : Int).toNat default = l.getD i default := grow_at s hi; rw [e]; exact hg _ hxU s (by omega)) hM0) ?_
  refine xA tb hM0 7 [1,2,3,8,10,11,12,13,14,15,16,35,36,47,48] [8,10,21,25,33,41,42] rfl ?_
  refine oP rfl (pure_tupl (pure_mlook2 rfl Try.underlying65 Try.underlying3 zv3 rfl rfl rfl rfl (fun q hq => by obtain ⟨_, _, rfl⟩ := List.mem_map.1 hq; rfl) (look_x (kv := kvN) kvN_inj _ _) (has_x (kv := kvN) kvN_inj _ _))) ?_
  refine xA tb hM0 7 [1,2,3,8,10,11,12,13,14,15,16,17,18,35,36] [8,10,21,25,33,41,42] rfl ?_
  refine ct (fun zs => zs = ⟨89, [(1, .v .mx (natI size)), (2, .v .mx (.clo g cg)), (3, .v .mx (.clo h ch)), (8, .pbox 8 0), (10, .pbox 10 0), (11, .omap 21), (12, .own 25), (13, .v .pl (int i)), (14, .own 33), (15, .v .pl (int s)), (17, .v .pl (natI (idx (grow next (l.getD i default) l (s + 1)) (next (l.getD i default) s)))), (35, .v .pl (natI size)), (36, .v .pl (int s))], [(8, .box 26 [.v .pl (.sc (.int .i64 0)), .v .pl (.sc (.slice none 0 0)), .v .pl (.sc (.slice none 0 0))]), (10, .box 26 [.v .pl (natI size), .own 41, .own 42]), (21, .mp ((grow next (l.getD i default) l (s + 1)).map kvN) (vsC (grow next (l.getD i default) l (s + 1)).length)), (25, .arr 3 ((grow next (l.getD i default) l (s + 1)).map natI)), (33, .arr 3 ((rB next size (l.getD i default) l s).map int)), (41, .arr 22 ((rowsX next size l (l.take i)).map ints)), (42, .arr 4 ((finX final (l.take i)).map bool))]⟩) ?_ ?_
  refine xA tb hM0 6 [1,2,3,8,10,11,12,13,14,15,16,17,35,36,53] [8,10,21,25,33,41,42] rfl ?_
  refine spC 53 rfl ?_ ?_ <;> intro h3 <;> try simp only [dq] at h3
  refine xA tb hM0 4 [1,2,3,8,10,11,12,13,14,15,16,35,36,54] [8,10,21,25,33,41,42] rfl ?_
  refine oP rfl (pure_lenm rfl Try.underlying22 rfl) ?_
  refine xA tb hM0 10 [1,2,3,8,10,11,12,13,14,15,16,17,35,36,57] [8,10,21,25,33,41,42] rfl ?_
  refine spC 57 rfl ?_ ?_ <;> intro h4 <;> try simp only [dq] at h4
  have hlt := grow_lt (s := s) hL1_0.met hU hxU (by omega) (by assumption)
  omega
  --done
  refine xA tb hM0 8 [1,2,3,8,10,11,12,13,14,15,16,17,35,36,59,60,61] [8,10,21,25,33,41,42] rfl ?_
  refine oS rfl (step_put rfl rfl rfl Try.underlying65 Try.underlying3 rfl rfl rfl rfl rfl (fun q hq => by obtain ⟨_, _, rfl⟩ := List.mem_map.1 hq; rfl) hM0) rfl ?_
  refine xA tb hM0 5 [1,2,3,8,10,11,13,14,15,17,35,36,62,63] [8,10,21,25,33,41,42] rfl ?_
  refine oP rfl (pure_lit rfl Try.underlying22 el3 rfl rfl rfl rfl hM0) ?_
  refine oS rfl (step_append rfl rfl rfl rfl Try.underlying22 el3 rfl rfl hM0 (src_pl rfl (one_len (by rfl))) (by rw [List.length_map]; simp only [List.length_cons, List.length_nil]; omega) (by rw [List.length_map]; simp only [List.length_cons, List.length_nil]; omega)) rfl ?_
  refine xA tb hM0 2 [1,2,3,8,10,11,12,13,14,15,17,35,36] [8,10,21,25,33,41,42] rfl ?_
  refine cx ?_
  have q := (by assumption : next (l.getD i default) s ∉ (grow next (l.getD i default) l s))
  rw [show (Value.int .i64 (next (l.getD i default) s : Nat)) = kvN (next (l.getD i default) s) from rfl, grow_new q, idx_new q, put_kx (kv := kvN) kvN_inj q, put_vx (kv := kvN) kvN_inj q, List.map_append (f := natI)]
  rfl
  refine xA tb hM0 2 [1,2,3,8,10,11,12,13,14,15,17,35,36] [8,10,21,25,33,41,42] rfl ?_
  refine cx ?_
  rw [grow_old (by assumption), if_pos (by assumption)]
  rintro zs ⟨rfl⟩
  refine xA tb hM0 4 [1,2,3,8,10,11,12,13,14,35,36,66,67,68] [8,10,21,25,33,41,42] rfl ?_
  refine oP rfl (pure_index_own rfl Try.underlying22 sz3 rfl rfl rfl (by rw [List.length_map, rB_len (size := size) (s := s) (by omega)]; omega)) ?_
  refine oS rfl (step_store_pel rfl rfl rfl sz3 rfl rfl (mget (by rw [rB_len (size := size) (s := s) (by omega)]; omega)) rfl rfl (.inl rfl) rfl (Nat.le_of_ble_eq_true rfl) hM0) rfl ?_
  refine xA tb hM0 4 [1,2,3,8,10,11,12,13,14,35,36] [8,10,21,25,33,41,42] rfl ?_
  refine oP rfl (pure_addi rfl rfl rfl (by omega)) ?_
  refine xA tb hM0 2 [1,2,3,8,10,11,12,13,14,35,36] [8,10,21,25,33,41,42] rfl ?_
  refine nx ?_
  refine ⟨_, ⟨s + 1, rfl, by omega, ?_⟩, by omega⟩
  rw [← rB_set (by omega)]; rfl
  refine xA tb hM0 7 [1,2,3,8,10,11,12,13,14] [8,10,21,25,33,41,42] rfl ?_
  refine code_frz 89 [(1, _), (2, _), (3, _), (8, _), (10, _), (11, _), (12, _), (13, _), (14, _)] [(8, _), (10, _), (21, _), (25, _), (41, _), (42, _)] hM0 rfl ⟨.inl rfl, .inl rfl, .inl rfl, .inl rfl, .inl rfl, .inl rfl, .inl rfl, .inl rfl, .inr ⟨_, _, rfl, rfl, rfl⟩, trivial⟩ ⟨rfl, rfl, rfl, rfl, rfl, rfl, trivial⟩ ?_
  obtain rfl : size = s := by omega
  refine xK tb hM0 4 [1,2,3,8,10,11,12,13,72,73] [8,10,21,25,41,42] rfl ?_
  refine oP rfl (pure_lit rfl Try.underlying23 el22 rfl rfl rfl rfl hM0) ?_
  refine oS rfl (step_append rfl rfl rfl rfl Try.underlying23 el22 rfl rfl hM0 (src_pl rfl (one_len (by rfl))) (by rw [List.length_map, rows_len, List.length_take]; simp only [List.length_cons, List.length_nil]; omega) (by rw [List.length_map, rows_len, List.length_take]; simp only [List.length_cons, List.length_nil]; omega)) rfl ?_
  refine xA tb hM0 4 [1,2,3,8,10,11,12,13] [8,10,21,25,41,42] rfl ?_
  refine code_draw mixed (by kernel_rfl) _ rfl ?_
  refine dl_pure rfl rfl rfl (pure_field_box rfl fd26_2 rfl rfl) ?_
  refine dl_pure rfl rfl rfl (pure_load_box rfl ag24 rfl rfl rfl) ?_
  refine dl_pure rfl rfl rfl (pure_move rfl rfl) ?_
  refine dl_pure rfl rfl rfl (pure_move rfl rfl) ?_
  refine dl_pure rfl rfl rfl (pure_move rfl rfl) ?_
  refine dl_pure rfl rfl rfl (pure_index_own rfl Try.underlying22 sz3 rfl rfl rfl (by rw [List.length_map]; have := grow_len (next := next) (x := l.getD i default) (l := l) size; omega)) ?_
  refine dl_pure rfl rfl rfl (pure_load_pel rfl ag3 rfl rfl (mget (by have := grow_len (next := next) (x := l.getD i default) (l := l) size; omega)) rfl) ?_
  refine dpk 89 [(1,_),(2,_),(3,_),(8,_),(10,_),(11,_),(12,_),(13,_),(78,_),(79,_),(83,_)] [(8,_),(10,_),(21,_),(25,_),(41,_),(42,_)] rfl rfl rfl ?_
  refine dl_pure rfl rfl rfl (pure_call rfl rfl rfl (by have e : (grow next (l.getD i default) l size).getD (i : Int).toNat default = l.getD i default := grow_at size hi; rw [e]; exact hh _ hxU) hM0) ?_
  refine dl_pure rfl rfl rfl (pure_lit rfl Try.underlying24 el4 rfl rfl rfl rfl hM0) ?_
  refine dl_tails (by kernel_rfl) ?_
  refine tl_step rfl (step_append rfl rfl rfl rfl Try.underlying24 el4 rfl rfl hM0 (src_pl rfl (one_len (by rfl))) (by rw [List.length_map, fin_len, List.length_take]; simp only [List.length_cons, List.length_nil]; omega) (by rw [List.length_map, fin_len, List.length_take]; simp only [List.length_cons, List.length_nil]; omega)) ?_
  refine tl_pure rfl rfl rfl (pure_field_box rfl fd26_2 rfl rfl) ?_
  refine tl_step rfl (step_store_box_own rfl rfl rfl sz24 rfl rfl rfl rfl rfl hM0) ?_
  refine tl_nil ?_
  refine xD tb hM0 4 [1,2,3,8,10,11,12,30] [8,10,21,25,41,42] rfl ?_
  refine oP rfl (pure_addi rfl rfl rfl (by omega)) ?_
  refine xA tb hM0 2 [1,2,3,8,10,11,12,13] [8,10,21,25,41,42] rfl ?_
  refine nx ?_
  refine ⟨_, ⟨grow next (l.getD i default) l size, i + 1, rfl, hL1_0.step hU hN hi rfl, ?_⟩, by omega⟩
  rw [rows_step hL1_0.met hi rfl, fin_step hi rfl, List.map_append, List.map_append]; rfl
  refine xA tb hM0 7 [8,10] [8,10,41,42] rfl ?_
  refine code_frz 89 [(8, _), (10, _)] [(8, _)] hM0 rfl ⟨.inl rfl, .inr ⟨_, _, rfl, rfl, rfl⟩, trivial⟩ ⟨rfl, trivial⟩ ?_
  have e1 : l.take i = l := List.take_of_length_le (by omega)
  have e2 := hL1_0.fin (by omega)
  rw [e1]
  refine xK tb hM0 7 [] [] rfl ?_
  refine endC2_ret rfl rfl ?_
  refine ⟨?_, rfl⟩
  rw [e2]; rfl
end Go.Proofs.Ytjimlkpfmbachaa

namespace Go.Proofs.Ytjimlkpfmbachaa
open Go.Am Go.Wb
set_option linter.unusedVariables false
set_option linter.unusedSimpArgs false

theorem fn51 : Fn1 Try.prog 51 Try.f51.ntmps 2 (Try.f51.body.getD .skip) := ⟨Try.f51, Try.func51, rfl, rfl, rfl, by kernel_rfl⟩
set_option maxRecDepth 100000 in
set_option maxHeartbeats 1000000 in
theorem set_call {l : List Int} (hl : l.length ≤ 9223372036854775807) : CallF Try.prog 51 [ints l] (.p (bool (setOk l))) := by
  refine callF_of_code fn51 (Nat.le_of_ble_eq_true rfl) fun w0 M0 hM0 => ?_
  refine xC tb hM0 9 [0,5] [] rfl ?_
  refine oP rfl (pure_lenm rfl Try.underlying22 rfl) ?_
  refine xA tb hM0 4 [0,5,6,7] [] rfl ?_
  refine lp (fun zm zs => ∃ k : Nat, zm = l.length - k ∧ (k ≤ l.length) ∧ (∀ j, j < k → okAt l j) ∧ zs = ⟨35, [(0, .v .mx (ints l)), (5, .v .mx (ints l)), (6, .v .pl (int l.length)), (7, .v .pl (int k))], []⟩) ?_ ?_
  exact ⟨_, 0, rfl, Nat.zero_le _, fun j hj => absurd hj (by omega), rfl⟩
  rintro zm zs ⟨k, rfl, hL1_0, hL1_1, rfl⟩
  refine xA tb hM0 6 [0,5,6,7,8] [] rfl ?_
  refine spC 8 rfl ?_ ?_ <;> intro h1 <;> try simp only [dq] at h1
  refine xA tb hM0 8 [0,5,6,7,9] [] rfl ?_
  refine oP rfl (pure_ix rfl Try.underlying22 sz3 rfl rfl (by omega) (fun _ => rfl)) ?_
  refine xA tb hM0 10 [0,3,4,5,6,7,14] [] rfl ?_
  refine spO 14 rfl ?_ ?_ <;> intro h2' <;> try simp only [dq] at h2'
  refine xA tb hM0 30 [] [] rfl ?_
  refine end_ret rfl ?_; rotate_left
  refine xA tb hM0 4 [0,3,4,5,6,7,18] [] rfl ?_
  refine spO 18 rfl ?_ ?_ <;> intro h3' <;> try simp only [dq] at h3'
  refine xA tb hM0 26 [] [] rfl ?_
  refine end_ret rfl ?_; rotate_left
  refine xA tb hM0 3 [0,3,4,5,6,7,18,21] [] rfl ?_
  refine spO 21 rfl ?_ ?_ <;> intro h4' <;> try simp only [dq] at h4'
  refine xA tb hM0 3 [0,5,6,7,18,21,22,23,24] [] rfl ?_
  refine oP rfl (pure_subi rfl rfl rfl (by omega)) ?_
  refine oP rfl (pure_ix rfl Try.underlying22 sz3 rfl rfl (by omega) (fun _ => rfl)) ?_
  refine xA tb hM0 6 [0,5,6,7,30] [] rfl ?_
  refine spC 30 rfl ?_ ?_ <;> intro h5 <;> try simp only [dq] at h5
  refine xA tb hM0 12 [] [] rfl ?_
  refine end_ret rfl ?_; rotate_left
  refine xA tb hM0 5 [0,5,6,7] [] rfl ?_
  refine oP rfl (pure_addi rfl rfl rfl (by omega)) ?_
  refine xA tb hM0 2 [0,5,6,7] [] rfl ?_
  refine nx ?_; rotate_left
  refine xA tb hM0 16 [0,5,6,7] [] rfl ?_
  refine oP rfl (pure_addi rfl rfl rfl (by omega)) ?_
  refine xA tb hM0 2 [0,5,6,7] [] rfl ?_
  refine nx ?_; rotate_left
  refine xA tb hM0 9 [32] [] rfl ?_
  refine oP rfl (pure_lenm rfl Try.underlying22 rfl) ?_
  refine xA tb hM0 5 [] [] rfl ?_
  refine end_ret rfl ?_
  rw [setOk_end (fun j hj => hL1_1 j (by omega))]; exact congrArg (fun b => RV.p (bool b)) (decide_eq_decide.2 (by omega))
  all_goals first
   | (
     rw [← setOk_no (l := l) (k := k) (by omega) (fun q => by obtain ⟨q1, q2, q3⟩ := q; omega)]; done)
   | (
     exact ⟨_, ⟨k + 1, rfl, by omega, all_step hL1_1 ⟨by omega, by omega, fun _ => by omega⟩, rfl⟩, by omega⟩; done)

end Go.Proofs.Ytjimlkpfmbachaa

namespace Go.Proofs.Ytjimlkpfmbachaa
open Go.Am Go.Wb
set_option linter.unusedVariables false
set_option linter.unusedSimpArgs false

end Go.Proofs.Ytjimlkpfmbachaa

namespace Go.Proofs.Ytjimlkpfmbachaa
open Go.Am Go.Wb
set_option linter.unusedVariables false
set_option linter.unusedSimpArgs false

end Go.Proofs.Ytjimlkpfmbachaa

namespace Go.Proofs.Ytjimlkpfmbachaa
open Go.Am Go.Wb
set_option linter.unusedVariables false
set_option linter.unusedSimpArgs false

theorem fn57 : Fn1 Try.prog 57 Try.f57.ntmps 4 (Try.f57.body.getD .skip) := ⟨Try.f57, Try.func57, rfl, rfl, rfl, by kernel_rfl⟩
set_option maxRecDepth 100000 in
set_option maxHeartbeats 1000000 in
theorem idxR_call {l : List Rx} {p : Rx → Bool} {g : FuncId} (hl : l.length ≤ 1099511627776) (hf : ∀ x ∈ l, CallF Try.prog g [rx x] (.p (bool (p x)))) : CallF Try.prog 57 [rxs l, .clo g []] (.p (int (idxF p l))) := by
  refine callF_of_code fn57 (Nat.le_of_ble_eq_true rfl) fun w0 M0 hM0 => ?_
  refine xC tb hM0 9 [0,1,6] [] rfl ?_
  refine oP rfl (pure_lenm rfl Try.underlying45 rfl) ?_
  refine xA tb hM0 4 [0,1,7,8] [] rfl ?_
  refine lp (fun zm zs => ∃ k : Nat, zm = l.length - k ∧ (k ≤ l.length) ∧ (∀ j, j < k → p (l.getD j default) = false) ∧ zs = ⟨19, [(0, .v .mx (rxs l)), (1, .v .mx (.clo g [])), (7, .v .pl (int l.length)), (8, .v .pl (int k))], []⟩) ?_ ?_
  exact ⟨_, 0, rfl, Nat.zero_le _, fun j hj => absurd hj (by omega), rfl⟩
  rintro zm zs ⟨k, rfl, hL1_0, hL1_1, rfl⟩
  refine xA tb hM0 6 [0,1,7,8,9] [] rfl ?_
  refine spC 9 rfl ?_ ?_ <;> intro h1 <;> try simp only [dq] at h1
  refine xA tb hM0 16 [0,1,5,7,8,11,12,13] [] rfl ?_
  refine oP rfl (pure_ix rfl Try.underlying45 sz47 rfl rfl (by omega) (fun _ => rfl)) ?_
  refine xA tb hM0 1 [0,1,5,7,8,11,15] [] rfl ?_
  refine oP rfl (pure_call rfl rfl rfl (hf _ (kid_mem (by omega))) hM0) ?_
  refine xA tb hM0 2 [0,1,5,7,8,16] [] rfl ?_
  refine spC 16 rfl ?_ ?_ <;> intro h2 <;> try simp only [dq] at h2
  refine xA tb hM0 13 [] [] rfl ?_
  refine end_ret rfl ?_
  rw [← idxF_hit (p := p) (l := l) (k := k) (by omega) hL1_1 (by simp_all)]
  refine xA tb hM0 5 [0,1,7,8] [] rfl ?_
  refine oP rfl (pure_addi rfl rfl rfl (by omega)) ?_
  refine xA tb hM0 2 [0,1,7,8] [] rfl ?_
  refine nx ?_
  exact ⟨_, ⟨k + 1, rfl, by omega, all_step hL1_1 (by simp_all), rfl⟩, by omega⟩
  refine xA tb hM0 12 [] [] rfl ?_
  refine end_ret rfl ?_
  rw [← idxF_none (p := p) (l := l) (fun j hj => hL1_1 j (by omega))]

theorem fn52 : Fn1 Try.prog 52 Try.f52.ntmps 4 (Try.f52.body.getD .skip) := ⟨Try.f52, Try.func52, rfl, rfl, rfl, by kernel_rfl⟩
set_option maxRecDepth 100000 in
set_option maxHeartbeats 1000000 in
theorem hasR_call {l : List Rx} {p : Rx → Bool} {g : FuncId} (hl : l.length ≤ 1099511627776) (hf : ∀ x ∈ l, CallF Try.prog g [rx x] (.p (bool (p x)))) : CallF Try.prog 52 [rxs l, .clo g []] (.p (bool (l.any p))) := by
  refine callF_of_code fn52 (Nat.le_of_ble_eq_true rfl) fun w0 M0 hM0 => ?_
  refine xC tb hM0 9 [5,6] [] rfl ?_
  refine oP rfl (pure_call rfl rfl rfl (idxR_call hl hf) hM0) ?_
  refine xA tb hM0 5 [] [] rfl ?_
  refine end_ret rfl ?_
  rw [idxF_ge]
end Go.Proofs.Ytjimlkpfmbachaa

namespace Go.Proofs.Ytjimlkpfmbachaa
open Go.Am Go.Wb
set_option linter.unusedVariables false
set_option linter.unusedSimpArgs false

end Go.Proofs.Ytjimlkpfmbachaa

namespace Go.Proofs.Ytjimlkpfmbachaa
open Go.Am Go.Wb
set_option linter.unusedVariables false
set_option linter.unusedSimpArgs false

theorem fn53 : Fn1 Try.prog 53 Try.f53.ntmps 2 (Try.f53.body.getD .skip) := ⟨Try.f53, Try.func53, rfl, rfl, rfl, by kernel_rfl⟩
set_option maxRecDepth 100000 in
set_option maxHeartbeats 4000000 in
theorem validN_call {x : Rx} (h : CallF Try.prog 36 [rx x] (.p (bool (validR x)))) : CallF Try.prog 53 [rx x] (.p (bool (!validR x))) := by
  refine callF_of_code fn53 (Nat.le_of_ble_eq_true rfl) fun w0 M0 hM0 => ?_
  refine xC tb hM0 2 [0] [] rfl ?_
  refine oP rfl (pure_box rfl rfl rfl hM0) ?_
  refine xA tb hM0 6 [3] [] rfl ?_
  refine oP rfl (pure_call rfl rfl rfl (h) hM0) ?_
  refine xA tb hM0 5 [] [] rfl ?_
  refine end_ret rfl ?_
  rfl

theorem fn36 : Fn1 Try.prog 36 Try.f36.ntmps 2 (Try.f36.body.getD .skip) := ⟨Try.f36, Try.func36, rfl, rfl, rfl, by kernel_rfl⟩
set_option maxRecDepth 100000 in
set_option maxHeartbeats 4000000 in
theorem valid_call : ∀ (m : Nat) (r : Rx), r.size ≤ m → m ≤ 1099511627776 → CallF Try.prog 36 [rx r] (.p (bool (validR r))) := by
  intro m
  induction m with
  | zero => intro a hr _; have := size_pos a; omega
  | succ m ih =>
  intro r hr hm
  have hkl := kids_len r
  have hsl := syms_len r
  rw [rx_eq r]
  refine callF_of_code fn36 (Nat.le_of_ble_eq_true rfl) fun w0 M0 hM0 => ?_
  refine xC tb hM0 2 [0] [] rfl ?_
  refine oP rfl (pure_box rfl rfl rfl hM0) ?_
  refine xA tb hM0 18 [1,4,5] [] rfl ?_
  refine spC 5 rfl ?_ ?_ <;> intro h1 <;> try simp only [dq] at h1
  refine xA tb hM0 8 [1,9] [] rfl ?_
  refine oP rfl (pure_lenm rfl Try.underlying22 rfl) ?_
  refine xA tb hM0 2 [1,12] [] rfl ?_
  refine spO 12 rfl ?_ ?_ <;> intro h2' <;> try simp only [dq] at h2'
  refine xA tb hM0 2 [12,14] [] rfl ?_
  refine oP rfl (pure_lenm rfl Try.underlying45 rfl) ?_
  refine xA tb hM0 8 [] [] rfl ?_
  refine end_ret rfl ?_; rotate_left
  refine xA tb hM0 11 [] [] rfl ?_
  refine end_ret rfl ?_; rotate_left
  refine xA tb hM0 6 [1,4,5] [] rfl ?_
  refine spC 5 rfl ?_ ?_ <;> intro h3 <;> try simp only [dq] at h3
  refine xA tb hM0 5 [1,9] [] rfl ?_
  refine oP rfl (pure_lenm rfl Try.underlying22 rfl) ?_
  refine xA tb hM0 2 [1,12] [] rfl ?_
  refine spO 12 rfl ?_ ?_ <;> intro h4' <;> try simp only [dq] at h4'
  refine xA tb hM0 2 [12,14] [] rfl ?_
  refine oP rfl (pure_lenm rfl Try.underlying45 rfl) ?_
  refine xA tb hM0 8 [] [] rfl ?_
  refine end_ret rfl ?_; rotate_left
  refine xA tb hM0 11 [] [] rfl ?_
  refine end_ret rfl ?_; rotate_left
  refine xA tb hM0 7 [1,4,18] [] rfl ?_
  refine spC 18 rfl ?_ ?_ <;> intro h5 <;> try simp only [dq] at h5
  refine xA tb hM0 5 [1,21] [] rfl ?_
  refine oP rfl (pure_lenm rfl Try.underlying45 rfl) ?_
  refine xA tb hM0 2 [1,24] [] rfl ?_
  refine spO 24 rfl ?_ ?_ <;> intro h6' <;> try simp only [dq] at h6'
  refine xA tb hM0 2 [24,26] [] rfl ?_
  refine oP rfl (pure_call rfl rfl rfl (set_call (by omega)) hM0) ?_
  refine xA tb hM0 7 [] [] rfl ?_
  refine end_ret rfl ?_; rotate_left
  refine xA tb hM0 10 [] [] rfl ?_
  refine end_ret rfl ?_; rotate_left
  refine xA tb hM0 7 [1,4,29] [] rfl ?_
  refine spC 29 rfl ?_ ?_ <;> intro h7 <;> try simp only [dq] at h7
  refine xA tb hM0 5 [1,32] [] rfl ?_
  refine oP rfl (pure_lenm rfl Try.underlying22 rfl) ?_
  refine xA tb hM0 2 [1,35] [] rfl ?_
  refine spO 35 rfl ?_ ?_ <;> intro h8' <;> try simp only [dq] at h8'
  refine xA tb hM0 2 [1,35,37] [] rfl ?_
  refine oP rfl (pure_lenm rfl Try.underlying45 rfl) ?_
  refine xA tb hM0 3 [1,41] [] rfl ?_
  refine spO 41 rfl ?_ ?_ <;> intro h9' <;> try simp only [dq] at h9'
  refine xA tb hM0 2 [41,43] [] rfl ?_
  refine oP rfl (pure_ix rfl Try.underlying45 sz47 rfl rfl (by omega) (fun _ => rfl)) ?_
  refine xA tb hM0 1 [41,45] [] rfl ?_
  refine oP rfl (pure_call rfl rfl rfl (ih _ (Nat.le_of_lt_succ (Nat.lt_of_lt_of_le (kid_lt (by omega)) hr)) (by omega)) hM0) ?_
  refine xA tb hM0 7 [] [] rfl ?_
  refine end_ret rfl ?_; rotate_left
  refine xA tb hM0 12 [] [] rfl ?_
  refine end_ret rfl ?_; rotate_left
  refine xA tb hM0 18 [] [] rfl ?_
  refine end_ret rfl ?_; rotate_left
  refine xA tb hM0 8 [1,4,48] [] rfl ?_
  refine spC 48 rfl ?_ ?_ <;> intro h10 <;> try simp only [dq] at h10
  refine xA tb hM0 8 [1,52] [] rfl ?_
  refine oP rfl (pure_lenm rfl Try.underlying22 rfl) ?_
  refine xA tb hM0 2 [1,55] [] rfl ?_
  refine spO 55 rfl ?_ ?_ <;> intro h11' <;> try simp only [dq] at h11'
  refine xA tb hM0 2 [55,57] [] rfl ?_
  refine oP rfl (pure_call rfl rfl rfl (hasR_call (p := fun x => !validR x) (by omega) (fun x hx => validN_call (ih _ (Nat.le_of_lt_succ (Nat.lt_of_lt_of_le (size_kid hx) hr)) (by omega)))) hM0) ?_
  refine xA tb hM0 8 [] [] rfl ?_
  refine end_ret rfl ?_; rotate_left
  refine xA tb hM0 11 [] [] rfl ?_
  refine end_ret rfl ?_; rotate_left
  refine xA tb hM0 6 [1,48] [] rfl ?_
  refine spC 48 rfl ?_ ?_ <;> intro h12 <;> try simp only [dq] at h12
  refine xA tb hM0 5 [1,52] [] rfl ?_
  refine oP rfl (pure_lenm rfl Try.underlying22 rfl) ?_
  refine xA tb hM0 2 [1,55] [] rfl ?_
  refine spO 55 rfl ?_ ?_ <;> intro h13' <;> try simp only [dq] at h13'
  refine xA tb hM0 2 [55,57] [] rfl ?_
  refine oP rfl (pure_call rfl rfl rfl (hasR_call (p := fun x => !validR x) (by omega) (fun x hx => validN_call (ih _ (Nat.le_of_lt_succ (Nat.lt_of_lt_of_le (size_kid hx) hr)) (by omega)))) hM0) ?_
  refine xA tb hM0 8 [] [] rfl ?_
  refine end_ret rfl ?_; rotate_left
  refine xA tb hM0 11 [] [] rfl ?_
  refine end_ret rfl ?_; rotate_left
  refine xA tb hM0 10 [] [] rfl ?_
  refine end_ret rfl ?_; rotate_left
  all_goals
    first | (rw [validR_01 (r := r) (by omega)]; simp_all; done) | (rw [validR_2 (r := r) (by omega)]; simp_all; done) | (rw [validR_5 (r := r) (by omega), decide_eq_true (p := r.syms.length = 0) (by omega), decide_eq_true (p := r.kids.length = 1) (by omega)]; first | rfl | (simp_all; done)) | (rw [validR_5 (r := r) (by omega), decide_eq_false (p := r.kids.length = 1) (by omega), Bool.false_and, Bool.and_false]; first | done | rfl | (simp_all; done)) | (rw [validR_5 (r := r) (by omega), decide_eq_false (p := r.syms.length = 0) (by omega), Bool.false_and]; first | done | rfl | (simp_all; done)) | (rw [validR_34 (r := r) (by omega)]; simp_all; done) | (rw [validR_no (r := r) (by omega)]; done)

theorem fn64 : Fn1 Try.prog 64 Try.f64.ntmps 2 (Try.f64.body.getD .skip) := ⟨Try.f64, Try.func64, rfl, rfl, rfl, by kernel_rfl⟩
set_option maxRecDepth 100000 in
set_option maxHeartbeats 4000000 in
theorem emptyN_call {x : Rx} (h : CallF Try.prog 56 [rx x] (.p (bool (accR x)))) : CallF Try.prog 64 [rx x] (.p (bool (!accR x))) := by
  refine callF_of_code fn64 (Nat.le_of_ble_eq_true rfl) fun w0 M0 hM0 => ?_
  refine xC tb hM0 2 [0] [] rfl ?_
  refine oP rfl (pure_box rfl rfl rfl hM0) ?_
  refine xA tb hM0 6 [3] [] rfl ?_
  refine oP rfl (pure_call rfl rfl rfl (h) hM0) ?_
  refine xA tb hM0 5 [] [] rfl ?_
  refine end_ret rfl ?_
  rfl

theorem fn56 : Fn1 Try.prog 56 Try.f56.ntmps 2 (Try.f56.body.getD .skip) := ⟨Try.f56, Try.func56, rfl, rfl, rfl, by kernel_rfl⟩
set_option maxRecDepth 100000 in
set_option maxHeartbeats 4000000 in
theorem empty_call : ∀ (m : Nat) (r : Rx), r.size ≤ m → m ≤ 1099511627776 → CallF Try.prog 56 [rx r] (.p (bool (accR r))) := by
  intro m
  induction m with
  | zero => intro a hr _; have := size_pos a; omega
  | succ m ih =>
  intro r hr hm
  have hkl := kids_len r
  have hsl := syms_len r
  rw [rx_eq r]
  refine callF_of_code fn56 (Nat.le_of_ble_eq_true rfl) fun w0 M0 hM0 => ?_
  refine xC tb hM0 2 [0] [] rfl ?_
  refine oP rfl (pure_box rfl rfl rfl hM0) ?_
  refine xA tb hM0 18 [1,4,5] [] rfl ?_
  refine spC 5 rfl ?_ ?_ <;> intro h1 <;> try simp only [dq] at h1
  refine xA tb hM0 12 [] [] rfl ?_
  refine end_ret rfl ?_; rotate_left
  refine xA tb hM0 6 [1,4,5] [] rfl ?_
  refine spC 5 rfl ?_ ?_ <;> intro h2 <;> try simp only [dq] at h2
  refine xA tb hM0 9 [] [] rfl ?_
  refine end_ret rfl ?_; rotate_left
  refine xA tb hM0 7 [1,4,8] [] rfl ?_
  refine spC 8 rfl ?_ ?_ <;> intro h3 <;> try simp only [dq] at h3
  refine xA tb hM0 5 [11] [] rfl ?_
  refine oP rfl (pure_call rfl rfl rfl (hasR_call (p := fun x => !accR x) (by omega) (fun x hx => emptyN_call (ih _ (Nat.le_of_lt_succ (Nat.lt_of_lt_of_le (size_kid hx) hr)) (by omega)))) hM0) ?_
  refine xA tb hM0 7 [] [] rfl ?_
  refine end_ret rfl ?_; rotate_left
  refine xA tb hM0 7 [1,14] [] rfl ?_
  refine spC 14 rfl ?_ ?_ <;> intro h4 <;> try simp only [dq] at h4
  refine xA tb hM0 5 [17] [] rfl ?_
  refine oP rfl (pure_call rfl rfl rfl (hasR_call (p := accR) (by omega) (fun x hx => (ih _ (Nat.le_of_lt_succ (Nat.lt_of_lt_of_le (size_kid hx) hr)) (by omega)))) hM0) ?_
  refine xA tb hM0 6 [] [] rfl ?_
  refine end_ret rfl ?_; rotate_left
  refine xA tb hM0 10 [] [] rfl ?_
  refine end_ret rfl ?_; rotate_left
  all_goals
    rw [accR_eq]; first | (rw [if_pos (by omega), all_not_any]; done) | (rw [if_neg (by omega), if_pos (by omega)]; done) | (rw [if_neg (by omega), if_neg (by omega)]; simp_all; done) | (rw [if_neg (by omega), if_neg (by omega), decide_eq_false (by omega)]; done)

theorem fn44 : Fn1 Try.prog 44 Try.f44.ntmps 2 (Try.f44.body.getD .skip) := ⟨Try.f44, Try.func44, rfl, rfl, rfl, by kernel_rfl⟩
set_option maxRecDepth 100000 in
set_option maxHeartbeats 4000000 in
theorem Empty_call {r : Rx} (h : r.size ≤ 1099511627776) : CallF Try.prog 44 [rx r] (.p (bool (validR r && accR r))) := by
  refine callF_of_code fn44 (Nat.le_of_ble_eq_true rfl) fun w0 M0 hM0 => ?_
  refine xC tb hM0 2 [0] [] rfl ?_
  refine oP rfl (pure_box rfl rfl rfl hM0) ?_
  refine xA tb hM0 6 [1,3] [] rfl ?_
  refine oP rfl (pure_call rfl rfl rfl (valid_call _ _ (Nat.le_refl _) h) hM0) ?_
  refine xA tb hM0 1 [1,5] [] rfl ?_
  refine spO 5 rfl ?_ ?_ <;> intro h1' <;> try simp only [dq] at h1'
  refine xA tb hM0 1 [5,6] [] rfl ?_
  refine oP rfl (pure_call rfl rfl rfl (empty_call _ _ (Nat.le_refl _) h) hM0) ?_
  refine xA tb hM0 5 [] [] rfl ?_
  refine end_ret rfl ?_
  simp_all
  refine xA tb hM0 7 [] [] rfl ?_
  refine end_ret rfl ?_
  simp_all

end Go.Proofs.Ytjimlkpfmbachaa

namespace Go.Proofs.Ytjimlkpfmbachaa
open Go.Am Go.Wb
set_option linter.unusedVariables false
set_option linter.unusedSimpArgs false

theorem fn81 : Fn1 Try.prog 81 Try.f81.ntmps 2 (Try.f81.body.getD .skip) := ⟨Try.f81, Try.func81, rfl, rfl, rfl, by kernel_rfl⟩
theorem isnan_call {x : Int} : CallF Try.prog 81 [int x] (.p (bool false)) := by
  refine callF_of_code fn81 (Nat.le_of_ble_eq_true rfl) fun w0 M0 hM0 => ?_
  refine xC tb hM0 14 [] [] rfl ?_
  refine end_ret rfl ?_
  rw [decide_eq_true rfl]; rfl

theorem fn78 : Fn1 Try.prog 78 Try.f78.ntmps 4 (Try.f78.body.getD .skip) := ⟨Try.f78, Try.func78, rfl, rfl, rfl, by kernel_rfl⟩
theorem cmp_call {x y : Int} : CallF Try.prog 78 [int x, int y] (.p (int (orderI x y))) := by
  refine callF_of_code fn78 (Nat.le_of_ble_eq_true rfl) fun w0 M0 hM0 => ?_
  refine xC tb hM0 8 [0,1,7] [] rfl ?_
  refine oP rfl (pure_call rfl rfl rfl (isnan_call) hM0) ?_
  refine xA tb hM0 6 [0,1,5,9] [] rfl ?_
  refine oP rfl (pure_call rfl rfl rfl (isnan_call) hM0) ?_
  refine xA tb hM0 9 [0,1,6,11] [] rfl ?_
  refine spC 11 rfl ?_ ?_ <;> intro h1 <;> try simp only [dq] at h1
  cases h1 --done
  refine xA tb hM0 9 [0,1,13] [] rfl ?_
  refine spC 13 rfl ?_ ?_ <;> intro h2 <;> try simp only [dq] at h2
  cases h2 --done
  refine xA tb hM0 11 [0,1,16] [] rfl ?_
  refine spC 16 rfl ?_ ?_ <;> intro h3 <;> try simp only [dq] at h3
  refine xA tb hM0 8 [] [] rfl ?_
  refine end_ret rfl ?_; rotate_left
  refine xA tb hM0 11 [19] [] rfl ?_
  refine spC 19 rfl ?_ ?_ <;> intro h4 <;> try simp only [dq] at h4
  refine xA tb hM0 8 [] [] rfl ?_
  refine end_ret rfl ?_; rotate_left
  refine xA tb hM0 9 [] [] rfl ?_
  refine end_ret rfl ?_; rotate_left
  all_goals
    unfold orderI; first | rw [if_pos (by assumption)] | (rw [if_neg (by assumption), if_pos (by omega)]; done) | (rw [if_neg (by assumption), if_neg (by omega)]; done)

theorem fn77 : Fn1 Try.prog 77 Try.f77.ntmps 2 (Try.f77.body.getD .skip) := ⟨Try.f77, Try.func77, rfl, rfl, rfl, by kernel_rfl⟩
set_option maxRecDepth 100000 in
set_option maxHeartbeats 1000000 in
theorem or_call {l : List Int} (hl : l.length ≤ 1099511627776) : CallF Try.prog 77 [ints l] (.p (int (orI l))) := by
  refine callF_of_code fn77 (Nat.le_of_ble_eq_true rfl) fun w0 M0 hM0 => ?_
  refine xC tb hM0 14 [3,6] [] rfl ?_
  refine oP rfl (pure_lenm rfl Try.underlying22 rfl) ?_
  refine xA tb hM0 4 [3,6,7,8] [] rfl ?_
  refine lp (fun zm zs => ∃ k : Nat, zm = l.length - k ∧ (k ≤ l.length) ∧ (orI l = orI (l.drop k)) ∧ zs = ⟨18, [(3, .v .pl (int 0)), (6, .v .mx (ints l)), (7, .v .pl (int l.length)), (8, .v .pl (int k))], []⟩) ?_ ?_
  exact ⟨_, 0, rfl, Nat.zero_le _, rfl, rfl⟩
  rintro zm zs ⟨k, rfl, hL1_0, hL1_1, rfl⟩
  refine xA tb hM0 6 [3,6,7,8,9] [] rfl ?_
  refine spC 9 rfl ?_ ?_ <;> intro h1 <;> try simp only [dq] at h1
  refine xA tb hM0 7 [3,6,7,8] [] rfl ?_
  refine oP rfl (pure_ix rfl Try.underlying22 sz3 rfl rfl (by omega) (fun _ => rfl)) ?_
  refine xA tb hM0 11 [3,5,6,7,8,14] [] rfl ?_
  refine spC 14 rfl ?_ ?_ <;> intro h2 <;> try simp only [dq] at h2
  refine xA tb hM0 13 [] [] rfl ?_
  refine end_ret rfl ?_
  rw [hL1_1, orI_step (by omega), thn_ne (by assumption)]
  refine xA tb hM0 5 [3,6,7,8] [] rfl ?_
  refine oP rfl (pure_addi rfl rfl rfl (by omega)) ?_
  refine xA tb hM0 2 [3,6,7,8] [] rfl ?_
  refine nx ?_
  exact ⟨_, ⟨k + 1, rfl, by omega, by rw [hL1_1, orI_step (by omega), thn_zero (by omega)], rfl⟩, by omega⟩
  refine xA tb hM0 13 [] [] rfl ?_
  refine end_ret rfl ?_
  rw [hL1_1, List.drop_of_length_le (by omega)]; rfl

theorem fn79 : Fn1 Try.prog 79 Try.f79.ntmps 4 (Try.f79.body.getD .skip) := ⟨Try.f79, Try.func79, rfl, rfl, rfl, by kernel_rfl⟩
set_option maxRecDepth 100000 in
set_option maxHeartbeats 1000000 in
theorem scompare_call {a b : List Int} (ha : a.length ≤ 1099511627776) (hb : b.length ≤ 1099511627776) : CallF Try.prog 79 [ints a, ints b] (.p (int (orderL a b))) := by
  refine callF_of_code fn79 (Nat.le_of_ble_eq_true rfl) fun w0 M0 hM0 => ?_
  refine xC tb hM0 9 [0,1,9] [] rfl ?_
  refine oP rfl (pure_lenm rfl Try.underlying22 rfl) ?_
  refine xA tb hM0 4 [0,1,9,10,11] [] rfl ?_
  refine lp (fun zm zs => ∃ k : Nat, zm = a.length - k ∧ (k ≤ a.length) ∧ (k ≤ b.length) ∧ (orderL a b = orderL (a.drop k) (b.drop k)) ∧ zs = ⟨36, [(0, .v .mx (ints a)), (1, .v .mx (ints b)), (9, .v .mx (ints a)), (10, .v .pl (int a.length)), (11, .v .pl (int k))], []⟩) ?_ ?_
  exact ⟨_, 0, rfl, Nat.zero_le _, Nat.zero_le _, rfl, rfl⟩
  rintro zm zs ⟨k, rfl, hL1_0, hL1_1, hL1_2, rfl⟩
  refine xA tb hM0 6 [0,1,9,10,11,12] [] rfl ?_
  refine spC 12 rfl ?_ ?_ <;> intro h1 <;> try simp only [dq] at h1
  refine xA tb hM0 8 [0,1,9,10,11,13] [] rfl ?_
  refine oP rfl (pure_ix rfl Try.underlying22 sz3 rfl rfl (by omega) (fun _ => rfl)) ?_
  refine xA tb hM0 10 [0,1,5,6,9,10,11,16,17] [] rfl ?_
  refine oP rfl (pure_lenm rfl Try.underlying22 rfl) ?_
  refine xA tb hM0 3 [0,1,5,6,9,10,11,19] [] rfl ?_
  refine spC 19 rfl ?_ ?_ <;> intro h2 <;> try simp only [dq] at h2
  refine xA tb hM0 13 [] [] rfl ?_
  refine end_ret rfl ?_; rotate_left
  refine xA tb hM0 7 [0,1,6,9,10,11,20,21] [] rfl ?_
  refine oP rfl (pure_ix rfl Try.underlying22 sz3 rfl rfl (by omega) (fun _ => rfl)) ?_
  refine xA tb hM0 8 [0,1,9,10,11,24,25] [] rfl ?_
  refine oP rfl (pure_call rfl rfl rfl (cmp_call) hM0) ?_
  refine xA tb hM0 9 [0,1,8,9,10,11,28] [] rfl ?_
  refine spC 28 rfl ?_ ?_ <;> intro h3 <;> try simp only [dq] at h3
  refine xA tb hM0 13 [] [] rfl ?_
  refine end_ret rfl ?_; rotate_left
  refine xA tb hM0 5 [0,1,9,10,11] [] rfl ?_
  refine oP rfl (pure_addi rfl rfl rfl (by omega)) ?_
  refine xA tb hM0 2 [0,1,9,10,11] [] rfl ?_
  refine nx ?_
  exact ⟨_, ⟨k + 1, rfl, by omega, by omega, by rw [hL1_2, orderL_step (by omega) (by omega), thn_zero (by omega)], rfl⟩, by omega⟩
  refine xA tb hM0 10 [1,31] [] rfl ?_
  refine oP rfl (pure_lenm rfl Try.underlying22 rfl) ?_
  refine xA tb hM0 1 [32,33] [] rfl ?_
  refine oP rfl (pure_lenm rfl Try.underlying22 rfl) ?_
  refine xA tb hM0 3 [35] [] rfl ?_
  refine spC 35 rfl ?_ ?_ <;> intro h4 <;> try simp only [dq] at h4
  refine xA tb hM0 8 [] [] rfl ?_
  refine end_ret rfl ?_; rotate_left
  refine xA tb hM0 9 [] [] rfl ?_
  refine end_ret rfl ?_; rotate_left
  all_goals
    rw [hL1_2]; first | (rw [orderL_end (by omega) (by omega) (by omega), orderI_gt (by omega)]; done) | (rw [orderL_step (by omega) (by omega), thn_ne (by assumption)]; done) | (rw [orderL_end (by omega) (by omega) (by omega), orderI_lt (by omega)]; done) | (rw [orderL_end (by omega) (by omega) (by omega), show a.length = b.length by omega, orderI_nn])

theorem fn80 : Fn1 Try.prog 80 Try.f80.ntmps 6 (Try.f80.body.getD .skip) := ⟨Try.f80, Try.func80, rfl, rfl, rfl, by kernel_rfl⟩
set_option maxRecDepth 100000 in
set_option maxHeartbeats 1000000 in
theorem cfun_call {a b : List Rx} {g : FuncId} (ha : a.length ≤ 1099511627776) (hb : b.length ≤ 1099511627776) (hf : ∀ x ∈ a, ∀ y ∈ b, CallF Try.prog g [rx x, rx y] (.p (int (cmpR x y)))) :
    CallF Try.prog 80 [rxs a, rxs b, .clo g []] (.p (int (cmpRs a b))) := by
  refine callF_of_code fn80 (Nat.le_of_ble_eq_true rfl) fun w0 M0 hM0 => ?_
  refine xC tb hM0 9 [0,1,2,11] [] rfl ?_
  refine oP rfl (pure_lenm rfl Try.underlying45 rfl) ?_
  refine xA tb hM0 4 [0,1,2,11,12,13] [] rfl ?_
  refine lp (fun zm zs => ∃ k : Nat, zm = a.length - k ∧ (k ≤ a.length) ∧ (k ≤ b.length) ∧ (cmpRs a b = cmpRs (a.drop k) (b.drop k)) ∧ zs = ⟨39, [(0, .v .mx (rxs a)), (1, .v .mx (rxs b)), (2, .v .mx (.clo g [])), (11, .v .mx (rxs a)), (12, .v .pl (int a.length)), (13, .v .pl (int k))], []⟩) ?_ ?_
  exact ⟨_, 0, rfl, Nat.zero_le _, Nat.zero_le _, rfl, rfl⟩
  rintro zm zs ⟨k, rfl, hL1_0, hL1_1, hL1_2, rfl⟩
  refine xA tb hM0 6 [0,1,2,11,12,13,14] [] rfl ?_
  refine spC 14 rfl ?_ ?_ <;> intro h1 <;> try simp only [dq] at h1
  refine xA tb hM0 8 [0,1,2,11,12,13,15] [] rfl ?_
  refine oP rfl (pure_ix rfl Try.underlying45 sz47 rfl rfl (by omega) (fun _ => rfl)) ?_
  refine xA tb hM0 11 [0,1,2,7,8,11,12,13,18,19] [8] rfl ?_
  refine oP rfl (pure_lenm rfl Try.underlying45 rfl) ?_
  refine xA tb hM0 3 [0,1,2,7,8,11,12,13,21] [8] rfl ?_
  refine spC 21 rfl ?_ ?_ <;> intro h2 <;> try simp only [dq] at h2
  refine xA tb hM0 13 [] [] rfl ?_
  refine end_ret rfl ?_; rotate_left
  refine xA tb hM0 7 [0,1,2,8,11,12,13,22,23] [8] rfl ?_
  refine oP rfl (pure_ix rfl Try.underlying45 sz47 rfl rfl (by omega) (fun _ => rfl)) ?_
  refine xA tb hM0 10 [0,1,2,11,12,13,26,27,28] [] rfl ?_
  refine oP rfl (pure_call rfl rfl rfl (hf _ (kid_mem (by omega)) _ (kid_mem (by omega))) hM0) ?_
  refine xA tb hM0 9 [0,1,2,10,11,12,13,31] [] rfl ?_
  refine spC 31 rfl ?_ ?_ <;> intro h3 <;> try simp only [dq] at h3
  refine xA tb hM0 13 [] [] rfl ?_
  refine end_ret rfl ?_; rotate_left
  refine xA tb hM0 5 [0,1,2,11,12,13] [] rfl ?_
  refine oP rfl (pure_addi rfl rfl rfl (by omega)) ?_
  refine xA tb hM0 2 [0,1,2,11,12,13] [] rfl ?_
  refine nx ?_
  exact ⟨_, ⟨k + 1, rfl, by omega, by omega, by rw [hL1_2, cmpRs_step (by omega) (by omega), thn_zero (by omega)], rfl⟩, by omega⟩
  refine xA tb hM0 10 [1,34] [] rfl ?_
  refine oP rfl (pure_lenm rfl Try.underlying45 rfl) ?_
  refine xA tb hM0 1 [35,36] [] rfl ?_
  refine oP rfl (pure_lenm rfl Try.underlying45 rfl) ?_
  refine xA tb hM0 3 [38] [] rfl ?_
  refine spC 38 rfl ?_ ?_ <;> intro h4 <;> try simp only [dq] at h4
  refine xA tb hM0 8 [] [] rfl ?_
  refine end_ret rfl ?_; rotate_left
  refine xA tb hM0 9 [] [] rfl ?_
  refine end_ret rfl ?_; rotate_left
  all_goals
    rw [hL1_2]; first | (rw [cmpRs_end (by omega) (by omega) (by omega), orderI_gt (by omega)]; done) | (rw [cmpRs_step (by omega) (by omega), thn_ne (by assumption)]; done) | (rw [cmpRs_end (by omega) (by omega) (by omega), orderI_lt (by omega)]; done) | (rw [cmpRs_end (by omega) (by omega) (by omega), show a.length = b.length by omega, orderI_nn])

theorem fn69 : Fn1 Try.prog 69 Try.f69.ntmps 4 (Try.f69.body.getD .skip) := ⟨Try.f69, Try.func69, rfl, rfl, rfl, by kernel_rfl⟩
set_option maxRecDepth 100000 in
set_option maxHeartbeats 4000000 in
theorem compare_call : ∀ (m : Nat) (a b : Rx), a.size ≤ m → b.size ≤ 1099511627776 → m ≤ 1099511627776 → CallF Try.prog 69 [rx a, rx b] (.p (int (cmpR a b))) := by
  intro m
  induction m with
  | zero => intro a b hr _ _; have := size_pos a; omega
  | succ m ih =>
  intro a b ha hb hm
  have hka := kids_len a
  have hsa := syms_len a
  have hkb := kids_len b
  have hsb := syms_len b
  rw [rx_eq a, rx_eq b]
  refine callF_of_code fn69 (Nat.le_of_ble_eq_true rfl) fun w0 M0 hM0 => ?_
  refine xC tb hM0 2 [0,1] [] rfl ?_
  refine oP rfl (pure_box rfl rfl rfl hM0) ?_
  refine oP rfl (pure_box rfl rfl rfl hM0) ?_
  refine xA tb hM0 4 [2,3] [] rfl ?_
  refine code_draw mixed (by kernel_rfl) _ rfl ?_
  refine dl_pure rfl rfl rfl (pure_field rfl fd47_0 rfl) ?_
  refine dl_pure rfl rfl rfl (pure_load rfl ag3 rfl rfl) ?_
  refine dl_pure rfl rfl rfl (pure_field rfl fd47_0 rfl) ?_
  refine dl_pure rfl rfl rfl (pure_load rfl ag3 rfl rfl) ?_
  refine dl_pure rfl rfl rfl (pure_call rfl rfl rfl (cmp_call) hM0) ?_
  refine dl_pure rfl rfl rfl (pure_field rfl fd47_1 rfl) ?_
  refine dl_pure rfl rfl rfl (pure_load rfl ag22 rfl rfl) ?_
  refine dpk 22 [(2,_),(3,_),(9,_),(11,_)] [] rfl rfl rfl ?_
  refine dl_pure rfl rfl rfl (pure_field rfl fd47_1 rfl) ?_
  refine dl_pure rfl rfl rfl (pure_load rfl ag22 rfl rfl) ?_
  refine dl_pure rfl rfl rfl (pure_call rfl rfl rfl (scompare_call (by omega) (by omega)) hM0) ?_
  refine dl_pure rfl rfl rfl (pure_field rfl fd47_2 rfl) ?_
  refine dl_pure rfl rfl rfl (pure_load rfl ag45 rfl rfl) ?_
  refine dl_pure rfl rfl rfl (pure_field rfl fd47_2 rfl) ?_
  refine dl_pure rfl rfl rfl (pure_load rfl ag45 rfl rfl) ?_
  refine dpk 22 [(9,_),(14,_),(16,_),(18,_)] [] rfl rfl rfl ?_
  refine dl_pure rfl rfl rfl (pure_call rfl rfl rfl (cfun_call (by omega) (by omega) (fun x hx y hy => ih x y (Nat.le_of_lt_succ (Nat.lt_of_lt_of_le (size_kid hx) ha)) (Nat.le_trans (Nat.le_of_lt (size_kid hy)) hb) (by omega))) hM0) ?_
  refine dl_pure rfl rfl rfl (pure_lit rfl Try.underlying22 el3 rfl rfl rfl rfl hM0) ?_
  refine dl_pure rfl rfl rfl (pure_call rfl rfl rfl (or_call (l := [orderI a.kind b.kind, orderL a.syms b.syms, cmpRs a.kids b.kids]) (by simp)) hM0) ?_
  refine dl_pure rfl rfl rfl (pure_assign rfl rfl) ?_
  refine dl_nil ?_
  refine xD tb hM0 2 [] [] rfl ?_
  refine end_ret rfl ?_
  rw [cmpR_or]
end Go.Proofs.Ytjimlkpfmbachaa

namespace Go.Proofs.Ytjimlkpfmbachaa
open Go.Am Go.Wb
set_option linter.unusedVariables false
theorem sortsR : SortsK Try.prog 68 3 :=
  ⟨⟨Try.f68, Try.func68, by kernel_rfl, by kernel_rfl⟩,
   fun p cap fv w => AnyF.slices_SortFunc_none { Try.sortR with } p cap fv w,
   fun enc hk h1 cf hO g cb blk off cap d w eg hcmp hH hblk hsz => AnyQ.slices_SortFunc Try.sortR 3 (fun w => run_isAggOf ag47 w) (fun w => run_size sz47 w) enc hk h1 cf hO g cb blk off cap d w eg hcmp hH hblk hsz⟩
theorem sortsZ : SortsZ Try.prog 66 :=
  ⟨⟨Try.f66, Try.func66, by kernel_rfl, by kernel_rfl⟩,
   fun p cap w => AnyM.slices_Sort_int_none Try.sortZ p cap w,
   fun blk off cap zs w hH hblk hsz => AnyM.slices_Sort_int Try.sortZ blk off cap zs w hH hblk hsz⟩
theorem revsR : RevK Try.prog 58 3 :=
  ⟨⟨Try.f58, Try.func58, by kernel_rfl, by kernel_rfl⟩,
   fun p cap w => AnyQ.slices_Reverse_empty Try.revR p cap w,
   fun enc hk h1 blk off cap d w hH hsz => AnyQ.slices_Reverse Try.revR 3 (fun w => run_isAggOf ag47 w) (fun w => run_size sz47 w) enc hk h1 blk off cap d w hH hsz⟩
end Go.Proofs.Ytjimlkpfmbachaa

