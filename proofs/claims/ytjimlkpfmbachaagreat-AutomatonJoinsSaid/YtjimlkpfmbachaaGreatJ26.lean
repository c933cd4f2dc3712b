/-
  Contracts: what is reached from a pair of states; joins.
-/
import Derived.Test.YtjimlkpfmbachaaGreatJ25
import Derived.Test.YtjimlkpfmbachaaGreatJ15
import Derived.Test.YtjimlkpfmbachaaGreatJ24
import Derived.Test.YtjimlkpfmbachaaGreatJ18
import Derived.Test.YtjimlkpfmbachaaGreatJ19
set_option linter.unusedVariables false
set_option linter.unusedSectionVars false
set_option linter.unusedSimpArgs false
namespace Go.Proofs.YtjimlkpfmbachaaGreat
open Go.Am Go.Wc Go.Wb Go.Wd
set_option linter.unusedVariables false
set_option linter.unusedSimpArgs false
theorem fn76 : FnC2 Tryz.prog 76 Tryz.f76.ntmps 8 31 3 9 (Tryz.f76.body.getD .skip) := ⟨Tryz.f76, Tryz.func76, rfl, rfl, rfl, by kernel_rfl, ag31, sz31⟩
set_option maxRecDepth 100000 in
set_option maxHeartbeats 8000000 in
theorem exploreI_call {next : Nat → Nat → Nat} {final : Nat → Bool} {size start N : Nat} {sz : Int} {U : List Nat} {g h : FuncId} {cg ch : List AV} (hsz : 1 ≤ size ∧ size ≤ 64) (hU : ∀ x ∈ U, ∀ s, s < size → next x s ∈ U) (h0 : start ∈ U) (hN : U.length ≤ N) (hB : U.length ≤ 2048) (hz : (size : Int) = sz)
    (hg : ∀ x ∈ U, ∀ s, s < size → CallF Tryz.prog g ([natI x, natI s] ++ cg) (.p (natI (next x s)))) (hh : ∀ x ∈ U, CallF Tryz.prog h ([natI x] ++ ch) (.p (bool (final x)))) :
    CallF Tryz.prog 76 [natI start, int sz, .clo g cg, .clo h ch] (.p (.tup [dfa (mkD next size final (reach next size N start)), bool true])) := by
  subst hz
  refine callF_of_codeC2 fn76 (Nat.le_of_ble_eq_true rfl) fun w0 M0 hM0 => ?_
  refine xC tb hM0 16 [0,1,2,3,8,10] [8,10] rfl ?_
  refine oS rfl (step_map rfl rfl rfl rfl rfl Tryz.underlying111 (fun q hq => by cases hq <;> exact ⟨_, _, rfl⟩) hM0) rfl ?_
  refine xA tb hM0 1 [0,1,2,3,8,10,21,22] [8,10,21] rfl ?_
  refine oS rfl (step_insert rfl (step_put rfl rfl rfl Tryz.underlying111 Tryz.underlying3 rfl rfl rfl rfl rfl (fun q hq => by cases hq) hM0)) rfl ?_
  refine xA tb hM0 7 [1,2,3,8,10,11,24] [8,10,21] rfl ?_
  refine oS rfl (step_lit rfl rfl rfl rfl Tryz.underlying22 el3 rfl rfl rfl rfl hM0) rfl ?_
  refine xA tb hM0 5 [1,2,3,8,10,11,12] [8,10,21,25] rfl ?_
  refine code_nilown 10 1 41 22 31 hM0 rfl rfl rfl rfl ?_
  refine code_nilown 10 2 42 4 31 hM0 rfl rfl rfl rfl ?_
  refine xK tb hM0 5 [1,2,3,8,10,11,12,13] [8,10,21,25,41,42] rfl ?_
  refine lp (fun zm zs => ∃ (l : List Nat) (i : Nat), zm = N + 1 - i ∧ (Ex next size U start N l i) ∧ zs = ⟨89, [(1, .v .mx (natI size)), (2, .v .mx (.clo g cg)), (3, .v .mx (.clo h ch)), (8, .pbox 8 0), (10, .pbox 10 0), (11, .omap 21), (12, .own 25), (13, .v .pl (int i))], [(8, .box 31 [.v .pl (.sc (.int .i64 0)), .v .pl (.sc (.slice none 0 0)), .v .pl (.sc (.slice none 0 0))]), (10, .box 31 [.v .pl (natI size), .own 41, .own 42]), (21, .mp (l.map kvN) (vsC l.length)), (25, .arr 3 (l.map natI)), (41, .arr 22 ((rowsX next size l (l.take i)).map ints)), (42, .arr 4 ((finX final (l.take i)).map bool))]⟩) ?_ ?_
  refine ⟨_, [start], 0, rfl, ex_start h0, ?_⟩
  rw [← put_k0, ← put_v0 (kv := kvN) start]; rfl
  rintro zm zs ⟨l, i, rfl, hL1_0, rfl⟩
  have hle := hL1_0.le
  refine xA tb hM0 5 [1,2,3,8,10,11,12,13,26,27] [8,10,21,25,41,42] rfl ?_
  refine oP rfl (pure_lenm rfl Tryz.underlying22 rfl) ?_
  refine xA tb hM0 3 [1,2,3,8,10,11,12,13,29] [8,10,21,25,41,42] rfl ?_
  refine spC 29 rfl ?_ ?_ <;> intro h1 <;> try simp only [dq] at h1
  refine xA tb hM0 8 [1,2,3,8,10,11,12,13,32] [8,10,21,25,41,42] rfl ?_
  refine oS rfl (step_make rfl rfl rfl rfl Tryz.underlying22 el3 ze3 rfl rfl rfl (by omega) (by omega) (by omega) hM0) rfl ?_
  refine xA tb hM0 7 [1,2,3,8,10,11,12,13,14,34] [8,10,21,25,33,41,42] rfl ?_
  refine oP rfl (pure_toi (a' := (size : Int)) (pure_len rfl Tryz.underlying22 rfl) (by simp)) ?_
  refine xA tb hM0 4 [1,2,3,8,10,11,12,13,14,35,36] [8,10,21,25,33,41,42] rfl ?_
  have hi : i < l.length := by omega
  have hxU := hL1_0.met.sub _ (el_mem hi)
  refine lp (fun zm zs => ∃ s : Nat, zm = size - s ∧ (s ≤ size) ∧ zs = ⟨89, [(1, .v .mx (natI size)), (2, .v .mx (.clo g cg)), (3, .v .mx (.clo h ch)), (8, .pbox 8 0), (10, .pbox 10 0), (11, .omap 21), (12, .own 25), (13, .v .pl (int i)), (14, .own 33), (35, .v .pl (natI size)), (36, .v .pl (int s))], [(8, .box 31 [.v .pl (.sc (.int .i64 0)), .v .pl (.sc (.slice none 0 0)), .v .pl (.sc (.slice none 0 0))]), (10, .box 31 [.v .pl (natI size), .own 41, .own 42]), (21, .mp ((grow next (l.getD i default) l s).map kvN) (vsC (grow next (l.getD i default) l s).length)), (25, .arr 3 ((grow next (l.getD i default) l s).map natI)), (33, .arr 3 ((rB next size (l.getD i default) l s).map int)), (41, .arr 22 ((rowsX next size l (l.take i)).map ints)), (42, .arr 4 ((finX final (l.take i)).map bool))]⟩) ?_ ?_
  refine ⟨_, 0, rfl, Nat.zero_le _, ?_⟩
  rw [rB_zero, ← rep_mapI]; rfl
  rintro zm zs ⟨s, rfl, hL2_0, rfl⟩
  have hgl := grow_le hL1_0.met hU hxU hL2_0
  refine xA tb hM0 6 [1,2,3,8,10,11,12,13,14,35,36,37] [8,10,21,25,33,41,42] rfl ?_
  refine spC 37 rfl ?_ ?_ <;> intro h2 <;> try simp only [dq] at h2
  refine xA tb hM0 16 [1,2,3,8,10,11,12,13,14,15,35,36,39,40,41] [8,10,21,25,33,41,42] rfl ?_
  refine oP rfl (pure_index_own rfl Tryz.underlying22 sz3 rfl rfl rfl (by rw [List.length_map]; have := grow_len (next := next) (x := l.getD i default) (l := l) s; omega)) ?_
  refine oP rfl (pure_load_pel rfl ag3 rfl rfl (mget (by have := grow_len (next := next) (x := l.getD i default) (l := l) s; omega)) rfl) ?_
  refine xA tb hM0 1 [1,2,3,8,10,11,12,13,14,15,35,36,39,43,44] [8,10,21,25,33,41,42] rfl ?_
  refine oP rfl (pure_call rfl rfl rfl (by have e : (grow next (l.getD i default) l s).getD (i : Int).toNat default = l.getD i default := grow_at s hi; rw [e]; exact hg _ hxU s (by omega)) hM0) ?_
  refine xA tb hM0 7 [1,2,3,8,10,11,12,13,14,15,16,35,36,47,48] [8,10,21,25,33,41,42] rfl ?_
  refine oP rfl (pure_tupl (pure_mlook2 rfl Tryz.underlying111 Tryz.underlying3 zv3 rfl rfl rfl rfl (fun q hq => by obtain ⟨_, _, rfl⟩ := List.mem_map.1 hq; rfl) (look_x (kv := kvN) kvN_inj _ _) (has_x (kv := kvN) kvN_inj _ _))) ?_
  refine xA tb hM0 7 [1,2,3,8,10,11,12,13,14,15,16,17,18,35,36] [8,10,21,25,33,41,42] rfl ?_
  refine ct (fun zs => zs = ⟨89, [(1, .v .mx (natI size)), (2, .v .mx (.clo g cg)), (3, .v .mx (.clo h ch)), (8, .pbox 8 0), (10, .pbox 10 0), (11, .omap 21), (12, .own 25), (13, .v .pl (int i)), (14, .own 33), (15, .v .pl (int s)), (17, .v .pl (natI (idx (grow next (l.getD i default) l (s + 1)) (next (l.getD i default) s)))), (35, .v .pl (natI size)), (36, .v .pl (int s))], [(8, .box 31 [.v .pl (.sc (.int .i64 0)), .v .pl (.sc (.slice none 0 0)), .v .pl (.sc (.slice none 0 0))]), (10, .box 31 [.v .pl (natI size), .own 41, .own 42]), (21, .mp ((grow next (l.getD i default) l (s + 1)).map kvN) (vsC (grow next (l.getD i default) l (s + 1)).length)), (25, .arr 3 ((grow next (l.getD i default) l (s + 1)).map natI)), (33, .arr 3 ((rB next size (l.getD i default) l s).map int)), (41, .arr 22 ((rowsX next size l (l.take i)).map ints)), (42, .arr 4 ((finX final (l.take i)).map bool))]⟩) ?_ ?_
  refine xA tb hM0 6 [1,2,3,8,10,11,12,13,14,15,16,17,35,36,53] [8,10,21,25,33,41,42] rfl ?_
  refine spC 53 rfl ?_ ?_ <;> intro h3 <;> try simp only [dq] at h3
  refine xA tb hM0 4 [1,2,3,8,10,11,12,13,14,15,16,35,36,54] [8,10,21,25,33,41,42] rfl ?_
  refine oP rfl (pure_lenm rfl Tryz.underlying22 rfl) ?_
  refine xA tb hM0 10 [1,2,3,8,10,11,12,13,14,15,16,17,35,36,57] [8,10,21,25,33,41,42] rfl ?_
  refine spC 57 rfl ?_ ?_ <;> intro h4 <;> try simp only [dq] at h4
  have hlt := grow_lt (s := s) hL1_0.met hU hxU (by omega) (by assumption)
  omega
  --done
  refine xA tb hM0 8 [1,2,3,8,10,11,12,13,14,15,16,17,35,36,59,60,61] [8,10,21,25,33,41,42] rfl ?_
  refine oS rfl (step_put rfl rfl rfl Tryz.underlying111 Tryz.underlying3 rfl rfl rfl rfl rfl (fun q hq => by obtain ⟨_, _, rfl⟩ := List.mem_map.1 hq; rfl) hM0) rfl ?_
  refine xA tb hM0 5 [1,2,3,8,10,11,13,14,15,17,35,36,62,63] [8,10,21,25,33,41,42] rfl ?_
  refine oP rfl (pure_lit rfl Tryz.underlying22 el3 rfl rfl rfl rfl hM0) ?_
  refine oS rfl (step_append rfl rfl rfl rfl Tryz.underlying22 el3 rfl rfl hM0 (src_pl rfl (one_len (by rfl))) (by rw [List.length_map]; simp only [List.length_cons, List.length_nil]; omega) (by rw [List.length_map]; simp only [List.length_cons, List.length_nil]; omega)) rfl ?_
  refine xA tb hM0 2 [1,2,3,8,10,11,12,13,14,15,17,35,36] [8,10,21,25,33,41,42] rfl ?_
  refine cx ?_
  have q := (by assumption : next (l.getD i default) s ∉ (grow next (l.getD i default) l s))
  rw [show (Value.int .i64 (next (l.getD i default) s : Nat)) = kvN (next (l.getD i default) s) from rfl, grow_new q, idx_new q, put_kx (kv := kvN) kvN_inj q, put_vx (kv := kvN) kvN_inj q, List.map_append (f := natI)]
  rfl
  refine xA tb hM0 2 [1,2,3,8,10,11,12,13,14,15,17,35,36] [8,10,21,25,33,41,42] rfl ?_
  refine cx ?_
  rw [grow_old (by assumption), if_pos (by assumption)]
  rintro zs ⟨rfl⟩
  refine xA tb hM0 4 [1,2,3,8,10,11,12,13,14,35,36,66,67,68] [8,10,21,25,33,41,42] rfl ?_
  refine oP rfl (pure_index_own rfl Tryz.underlying22 sz3 rfl rfl rfl (by rw [List.length_map, rB_len (size := size) (s := s) (by omega)]; omega)) ?_
  refine oS rfl (step_store_pel rfl rfl rfl sz3 rfl rfl (mget (by rw [rB_len (size := size) (s := s) (by omega)]; omega)) rfl rfl (.inl rfl) rfl (Nat.le_of_ble_eq_true rfl) hM0) rfl ?_
  refine xA tb hM0 4 [1,2,3,8,10,11,12,13,14,35,36] [8,10,21,25,33,41,42] rfl ?_
  refine oP rfl (pure_addi rfl rfl rfl (by omega)) ?_
  refine xA tb hM0 2 [1,2,3,8,10,11,12,13,14,35,36] [8,10,21,25,33,41,42] rfl ?_
  refine nx ?_
  refine ⟨_, ⟨s + 1, rfl, by omega, ?_⟩, by omega⟩
  rw [← rB_set (by omega)]; rfl
  refine xA tb hM0 7 [1,2,3,8,10,11,12,13,14] [8,10,21,25,33,41,42] rfl ?_
  refine code_frz 89 [(1, _), (2, _), (3, _), (8, _), (10, _), (11, _), (12, _), (13, _), (14, _)] [(8, _), (10, _), (21, _), (25, _), (41, _), (42, _)] hM0 rfl ⟨.inl rfl, .inl rfl, .inl rfl, .inl rfl, .inl rfl, .inl rfl, .inl rfl, .inl rfl, .inr ⟨_, _, rfl, rfl, rfl⟩, trivial⟩ ⟨rfl, rfl, rfl, rfl, rfl, rfl, trivial⟩ ?_
  obtain rfl : size = s := by omega
  refine xK tb hM0 4 [1,2,3,8,10,11,12,13,72,73] [8,10,21,25,41,42] rfl ?_
  refine oP rfl (pure_lit rfl Tryz.underlying28 el22 rfl rfl rfl rfl hM0) ?_
  refine oS rfl (step_append rfl rfl rfl rfl Tryz.underlying28 el22 rfl rfl hM0 (src_pl rfl (one_len (by rfl))) (by rw [List.length_map, rows_len, List.length_take]; simp only [List.length_cons, List.length_nil]; omega) (by rw [List.length_map, rows_len, List.length_take]; simp only [List.length_cons, List.length_nil]; omega)) rfl ?_
  refine xA tb hM0 4 [1,2,3,8,10,11,12,13] [8,10,21,25,41,42] rfl ?_
  refine code_draw mixed (by kernel_rfl) _ rfl ?_
  refine dl_pure rfl rfl rfl (pure_field_box rfl fd31_2 rfl rfl) ?_
  refine dl_pure rfl rfl rfl (pure_load_box rfl ag29 rfl rfl rfl) ?_
  refine dl_pure rfl rfl rfl (pure_move rfl rfl) ?_
  refine dl_pure rfl rfl rfl (pure_move rfl rfl) ?_
  refine dl_pure rfl rfl rfl (pure_move rfl rfl) ?_
  refine dl_pure rfl rfl rfl (pure_index_own rfl Tryz.underlying22 sz3 rfl rfl rfl (by rw [List.length_map]; have := grow_len (next := next) (x := l.getD i default) (l := l) size; omega)) ?_
  refine dl_pure rfl rfl rfl (pure_load_pel rfl ag3 rfl rfl (mget (by have := grow_len (next := next) (x := l.getD i default) (l := l) size; omega)) rfl) ?_
  refine dpk 89 [(1,_),(2,_),(3,_),(8,_),(10,_),(11,_),(12,_),(13,_),(78,_),(79,_),(83,_)] [(8,_),(10,_),(21,_),(25,_),(41,_),(42,_)] rfl rfl rfl ?_
  refine dl_pure rfl rfl rfl (pure_call rfl rfl rfl (by have e : (grow next (l.getD i default) l size).getD (i : Int).toNat default = l.getD i default := grow_at size hi; rw [e]; exact hh _ hxU) hM0) ?_
  refine dl_pure rfl rfl rfl (pure_lit rfl Tryz.underlying29 el4 rfl rfl rfl rfl hM0) ?_
  refine dl_tails (by kernel_rfl) ?_
  refine tl_step rfl (step_append rfl rfl rfl rfl Tryz.underlying29 el4 rfl rfl hM0 (src_pl rfl (one_len (by rfl))) (by rw [List.length_map, fin_len, List.length_take]; simp only [List.length_cons, List.length_nil]; omega) (by rw [List.length_map, fin_len, List.length_take]; simp only [List.length_cons, List.length_nil]; omega)) ?_
  refine tl_pure rfl rfl rfl (pure_field_box rfl fd31_2 rfl rfl) ?_
  refine tl_step rfl (step_store_box_own rfl rfl rfl sz29 rfl rfl rfl rfl rfl hM0) ?_
  refine tl_nil ?_
  refine xD tb hM0 4 [1,2,3,8,10,11,12,30] [8,10,21,25,41,42] rfl ?_
  refine oP rfl (pure_addi rfl rfl rfl (by omega)) ?_
  refine xA tb hM0 2 [1,2,3,8,10,11,12,13] [8,10,21,25,41,42] rfl ?_
  refine nx ?_
  refine ⟨_, ⟨grow next (l.getD i default) l size, i + 1, rfl, hL1_0.step hU hN hi rfl, ?_⟩, by omega⟩
  rw [rows_step hL1_0.met hi rfl, fin_step hi rfl, List.map_append, List.map_append]; rfl
  refine xA tb hM0 7 [8,10] [8,10,41,42] rfl ?_
  refine code_frz 89 [(8, _), (10, _)] [(8, _)] hM0 rfl ⟨.inl rfl, .inr ⟨_, _, rfl, rfl, rfl⟩, trivial⟩ ⟨rfl, trivial⟩ ?_
  have e1 : l.take i = l := List.take_of_length_le (by omega)
  have e2 := hL1_0.fin (by omega)
  rw [e1]
  refine xK tb hM0 7 [] [] rfl ?_
  refine endC2_ret rfl rfl ?_
  refine ⟨?_, rfl⟩
  rw [e2]; rfl
end Go.Proofs.YtjimlkpfmbachaaGreat

namespace Go.Proofs.YtjimlkpfmbachaaGreat
open Go.Am Go.Wc Go.Wb Go.Wd
set_option linter.unusedVariables false
set_option linter.unusedSimpArgs false
theorem keyed74 : Maps.Keyed Tryz.prog 74 := .of_law (deep_law_laid (P := Tryz.prog) (m := 2) (by kernel_rfl) (by omega) (of_decide_eq_true (by kernel_rfl)) (by kernel_rfl) (by kernel_rfl))
theorem pk_ok {x : Nat × Nat} (h : smallP x) : ∃ l, keyOf Tryz.prog 74 (kvP x) = some l :=
  keyOf_pair (n := Tryz.prog.types.size - 1) Tryz.underlying74 Tryz.underlying3 sz74 sz3 (by kernel_rfl) (by kernel_rfl)
    (by have := h.1; simp only [Lit.wf, Bool.and_eq_true, decide_eq_true_eq]; exact ⟨Int.le_trans (by decide) (Int.natCast_nonneg _), by show (x.1 : Int) ≤ 9223372036854775807; omega⟩) (by have := h.2; simp only [Lit.wf, Bool.and_eq_true, decide_eq_true_eq]; exact ⟨Int.le_trans (by decide) (Int.natCast_nonneg _), by show (x.2 : Int) ≤ 9223372036854775807; omega⟩)
end Go.Proofs.YtjimlkpfmbachaaGreat

namespace Go.Proofs.YtjimlkpfmbachaaGreat
open Go.Am Go.Wc Go.Wb Go.Wd
set_option linter.unusedVariables false
set_option linter.unusedSimpArgs false
theorem fn98 : FnC Tryz.prog 98 Tryz.f98.ntmps 6 74 2 (Tryz.f98.body.getD .skip) := ⟨Tryz.f98, Tryz.func98, rfl, rfl, rfl, by kernel_rfl, ag74, sz74⟩
set_option maxRecDepth 100000 in
set_option maxHeartbeats 2000000 in
theorem steps1_call {a b : Dfa} {x : Nat × Nat} {s : Nat} (ha : okD a) (hb : okD b) (hk : a.size = b.size) (hx : x.1 < a.next.length ∧ x.2 < b.next.length) (hs : s < a.k) : CallF Tryz.prog 98 ([pairI x, natI s] ++ [dpc a, dpc b]) (.p (pairI (pnext a b x s))) := by
  have hka := kk ha
  have hkb := kk hb
  have hra := (ha.row hx.1).1
  have hrb := (hb.row hx.2).1
  refine callF_of_codeC fn98 (Nat.le_of_ble_eq_true rfl) fun w0 M0 hM0 => ?_
  refine xC tb hM0 2 [0,1,2,3] [] rfl ?_
  refine oP rfl (pure_box rfl rfl rfl hM0) ?_
  refine xA tb hM0 4 [1,2,3,4,6] [6] rfl ?_
  refine code_draw mixed (by kernel_rfl) _ rfl ?_
  refine dl_pure rfl rfl rfl (pure_field rfl fd31_1 rfl) ?_
  refine dl_pure rfl rfl rfl (pure_load rfl ag28 rfl rfl) ?_
  refine dl_pure rfl rfl rfl (pure_index_pc rfl Tryz.underlying74 sz3 rfl rfl (by decide)) ?_
  refine dl_pure rfl rfl rfl (pure_load rfl ag3 rfl rfl) ?_
  refine dl_pure rfl rfl rfl (pure_ix rfl Tryz.underlying28 sz22 rfl rfl (by exact ⟨Int.natCast_nonneg _, Int.ofNat_lt.2 hx.1⟩) (fun _ => rfl)) ?_
  refine dl_pure rfl rfl rfl (pure_load rfl ag22 rfl rfl) ?_
  refine dl_pure rfl rfl rfl (pure_move rfl rfl) ?_
  refine dpk 26 [(1,_),(3,_),(4,_),(6,_),(12,_),(13,_)] [(6,_)] rfl rfl rfl ?_
  refine dl_pure rfl rfl rfl (pure_ix rfl Tryz.underlying22 sz3 rfl rfl (by exact ⟨Int.natCast_nonneg _, Int.ofNat_lt.2 (show s < _ by omega)⟩) (fun _ => rfl)) ?_
  refine dl_pure rfl rfl rfl (pure_load rfl ag3 rfl rfl) ?_
  refine dl_pure rfl rfl rfl (pure_field rfl fd31_1 rfl) ?_
  refine dl_pure rfl rfl rfl (pure_load rfl ag28 rfl rfl) ?_
  refine dl_pure rfl rfl rfl (pure_index_pc rfl Tryz.underlying74 sz3 rfl rfl (by decide)) ?_
  refine dl_pure rfl rfl rfl (pure_load rfl ag3 rfl rfl) ?_
  refine dl_pure rfl rfl rfl (pure_ix rfl Tryz.underlying28 sz22 rfl rfl (by exact ⟨Int.natCast_nonneg _, Int.ofNat_lt.2 hx.2⟩) (fun _ => rfl)) ?_
  refine dpk 26 [(1,_),(6,_),(15,_),(20,_)] [(6,_)] rfl rfl rfl ?_
  refine dl_pure rfl rfl rfl (pure_load rfl ag22 rfl rfl) ?_
  refine dl_pure rfl rfl rfl (pure_move rfl rfl) ?_
  refine dl_pure rfl rfl rfl (pure_ix rfl Tryz.underlying22 sz3 rfl rfl (by exact ⟨Int.natCast_nonneg _, Int.ofNat_lt.2 (show s < _ by omega)⟩) (fun _ => rfl)) ?_
  refine dl_pure rfl rfl rfl (pure_load rfl ag3 rfl rfl) ?_
  refine dl_pure rfl rfl rfl (pure_build2 rfl Tryz.underlying74 sz3 ze74 rfl rfl rfl rfl) ?_
  refine dl_tails (by kernel_rfl) ?_
  refine tl_step rfl (step_store_box rfl rfl rfl sz74 rfl rfl rfl rfl (by decide) rfl rfl hM0) ?_
  refine tl_nil ?_
  refine xD tb hM0 2 [] [] rfl ?_
  refine endC_ret rfl ?_
  have e1 := ha.cellN hx.1 (k := s) (by omega)
  have e2 := hb.cellN hx.2 (k := s) (by omega)
  have e3 : pairI (pnext a b x s) = .agg [int ((a.next.getD x.1 default).getD s default), int ((b.next.getD x.2 default).getD s default)] := by rw [e1, e2]; rfl
  exact (by rw [e3]; first | done | rfl)
theorem fn59 : Fn1 Tryz.prog 59 Tryz.f59.ntmps 4 (Tryz.f59.body.getD .skip) := ⟨Tryz.f59, Tryz.func59, rfl, rfl, rfl, by kernel_rfl⟩
set_option maxRecDepth 100000 in
theorem steps_call {a b : Dfa} : CallN Tryz.prog 59 [dfa a, dfa b] (.p (.clo 98 [dpc a, dpc b])) := by
  refine callN_of_code fn59 (Nat.le_of_ble_eq_true rfl) fun w0 M0 hM0 => ?_
  refine xC tb hM0 2 [0,1] [] rfl ?_
  refine oP rfl (pure_box rfl rfl rfl hM0) ?_
  refine oP rfl (pure_box rfl rfl rfl hM0) ?_
  refine xA tb hM0 5 [2,3] [] rfl ?_
  refine oP rfl (pure_func rfl rfl) ?_
  refine xA tb hM0 4 [] [] rfl ?_
  refine end_ret rfl ?_
  rfl
end Go.Proofs.YtjimlkpfmbachaaGreat

namespace Go.Proofs.YtjimlkpfmbachaaGreat
open Go.Am Go.Wc Go.Wb Go.Wd
set_option linter.unusedVariables false
set_option linter.unusedSimpArgs false
theorem fn99 : FnC2 Tryz.prog 99 Tryz.f99.ntmps 8 31 3 9 (Tryz.f99.body.getD .skip) := ⟨Tryz.f99, Tryz.func99, rfl, rfl, rfl, by kernel_rfl, ag31, sz31⟩
set_option maxRecDepth 100000 in
set_option maxHeartbeats 8000000 in
theorem exploreP_call {next : Nat × Nat → Nat → Nat × Nat} {final : Nat × Nat → Bool} {size N : Nat} {start : Nat × Nat} {sz : Int} {U : List (Nat × Nat)} {g h : FuncId} {cg ch : List AV} (hsz : 1 ≤ size ∧ size ≤ 64) (hU : ∀ x ∈ U, ∀ s, s < size → next x s ∈ U) (h0 : start ∈ U) (hN : U.length ≤ N) (hB : U.length ≤ 2048) (hz : (size : Int) = sz) (hS : ∀ x ∈ U, smallP x)
    (hg : ∀ x ∈ U, ∀ s, s < size → CallF Tryz.prog g ([pairI x, natI s] ++ cg) (.p (pairI (next x s)))) (hh : ∀ x ∈ U, CallF Tryz.prog h ([pairI x] ++ ch) (.p (bool (final x)))) :
    CallF Tryz.prog 99 [pairI start, int sz, .clo g cg, .clo h ch] (.p (.tup [dfa (mkD next size final (reach next size N start)), bool true])) := by
  subst hz
  refine callF_of_codeC2 fn99 (Nat.le_of_ble_eq_true rfl) fun w0 M0 hM0 => ?_
  refine xC tb hM0 2 [0,1,2,3] [] rfl ?_
  refine oP rfl (pure_box rfl rfl rfl hM0) ?_
  refine xA tb hM0 14 [1,2,3,4,8,10] [8,10] rfl ?_
  refine oS rfl (step_map rfl rfl rfl rfl rfl Tryz.underlying122 (fun q hq => by cases hq <;> exact ⟨_, _, rfl⟩) hM0) rfl ?_
  refine xA tb hM0 0 [1,2,3,4,8,10,21] [8,10,21] rfl ?_
  refine oP rfl (pure_aggl (pure_load_agg rfl ag74 sz74 rfl (Nat.le_of_ble_eq_true rfl)) rfl) ?_
  refine oS rfl (step_insert rfl (step_putK keyed74 rfl rfl rfl Tryz.underlying122 rfl rfl rfl rfl ((pk_ok (hS _ h0)).choose_spec) (fun q hq => by cases hq) (List.nodup_nil) hM0)) rfl ?_
  refine xA tb hM0 6 [1,2,3,4,8,10,11] [8,10,21] rfl ?_
  refine oP rfl (pure_aggl (pure_load_agg rfl ag74 sz74 rfl (Nat.le_of_ble_eq_true rfl)) rfl) ?_
  refine oS rfl (step_lit rfl rfl rfl rfl Tryz.underlying123 el74 rfl rfl rfl rfl hM0) rfl ?_
  refine xA tb hM0 5 [1,2,3,8,10,11,12] [8,10,21,25] rfl ?_
  refine code_nilown 10 1 41 22 31 hM0 rfl rfl rfl rfl ?_
  refine code_nilown 10 2 42 4 31 hM0 rfl rfl rfl rfl ?_
  refine xK tb hM0 5 [1,2,3,8,10,11,12,13] [8,10,21,25,41,42] rfl ?_
  refine lp (fun zm zs => ∃ (l : List (Nat × Nat)) (i : Nat), zm = N + 1 - i ∧ (Ex next size U start N l i) ∧ zs = ⟨89, [(1, .v .mx (natI size)), (2, .v .mx (.clo g cg)), (3, .v .mx (.clo h ch)), (8, .pbox 8 0), (10, .pbox 10 0), (11, .omap 21), (12, .own 25), (13, .v .pl (int i))], [(8, .box 31 [.v .pl (.sc (.int .i64 0)), .v .pl (.sc (.slice none 0 0)), .v .pl (.sc (.slice none 0 0))]), (10, .box 31 [.v .pl (natI size), .own 41, .own 42]), (21, .mp (l.map kvP) (vsC l.length)), (25, .arr 74 (l.map pairI)), (41, .arr 22 ((rowsX next size l (l.take i)).map ints)), (42, .arr 4 ((finX final (l.take i)).map bool))]⟩) ?_ ?_
  refine ⟨_, [start], 0, rfl, ex_start h0, ?_⟩
  rw [← put_k0, ← put_v0 (kv := kvP) start]; rfl
  rintro zm zs ⟨l, i, rfl, hL1_0, rfl⟩
  have hle := hL1_0.le
  refine xA tb hM0 5 [1,2,3,8,10,11,12,13,26,27] [8,10,21,25,41,42] rfl ?_
  refine oP rfl (pure_lenm rfl Tryz.underlying123 rfl) ?_
  refine xA tb hM0 3 [1,2,3,8,10,11,12,13,29] [8,10,21,25,41,42] rfl ?_
  refine spC 29 rfl ?_ ?_ <;> intro h1 <;> try simp only [dq] at h1
  refine xA tb hM0 8 [1,2,3,8,10,11,12,13,32] [8,10,21,25,41,42] rfl ?_
  refine oS rfl (step_make rfl rfl rfl rfl Tryz.underlying22 el3 ze3 rfl rfl rfl (by omega) (by omega) (by omega) hM0) rfl ?_
  refine xA tb hM0 7 [1,2,3,8,10,11,12,13,14,34] [8,10,21,25,33,41,42] rfl ?_
  refine oP rfl (pure_toi (a' := (size : Int)) (pure_len rfl Tryz.underlying22 rfl) (by simp)) ?_
  refine xA tb hM0 4 [1,2,3,8,10,11,12,13,14,35,36] [8,10,21,25,33,41,42] rfl ?_
  have hi : i < l.length := by omega
  have hxU := hL1_0.met.sub _ (el_mem hi)
  refine lp (fun zm zs => ∃ s : Nat, zm = size - s ∧ (s ≤ size) ∧ zs = ⟨89, [(1, .v .mx (natI size)), (2, .v .mx (.clo g cg)), (3, .v .mx (.clo h ch)), (8, .pbox 8 0), (10, .pbox 10 0), (11, .omap 21), (12, .own 25), (13, .v .pl (int i)), (14, .own 33), (35, .v .pl (natI size)), (36, .v .pl (int s))], [(8, .box 31 [.v .pl (.sc (.int .i64 0)), .v .pl (.sc (.slice none 0 0)), .v .pl (.sc (.slice none 0 0))]), (10, .box 31 [.v .pl (natI size), .own 41, .own 42]), (21, .mp ((grow next (l.getD i default) l s).map kvP) (vsC (grow next (l.getD i default) l s).length)), (25, .arr 74 ((grow next (l.getD i default) l s).map pairI)), (33, .arr 3 ((rB next size (l.getD i default) l s).map int)), (41, .arr 22 ((rowsX next size l (l.take i)).map ints)), (42, .arr 4 ((finX final (l.take i)).map bool))]⟩) ?_ ?_
  refine ⟨_, 0, rfl, Nat.zero_le _, ?_⟩
  rw [rB_zero, ← rep_mapI]; rfl
  rintro zm zs ⟨s, rfl, hL2_0, rfl⟩
  have hgl := grow_le hL1_0.met hU hxU hL2_0
  have hsb : ∀ z ∈ (grow next (l.getD i default) l s), z ∈ U := grow_sub hL1_0.met hU hxU hL2_0
  have hnd2 : ((grow next (l.getD i default) l s).map kvP).Nodup := nodup_kv kvP_inj (grow_nodup _ hL1_0.met.nodup s)
  have hkn : s < size → ∃ q, keyOf Tryz.prog 74 (kvP (next (l.getD i default) s)) = some q := fun h => pk_ok (hS _ (hU _ hxU s h))
  refine xA tb hM0 6 [1,2,3,8,10,11,12,13,14,35,36,37] [8,10,21,25,33,41,42] rfl ?_
  refine spC 37 rfl ?_ ?_ <;> intro h2 <;> try simp only [dq] at h2
  refine xA tb hM0 16 [1,2,3,8,10,11,12,13,14,15,35,36,39,40,41] [8,10,21,25,33,41,42] rfl ?_
  refine oP rfl (pure_index_own rfl Tryz.underlying123 sz74 rfl rfl rfl (by rw [List.length_map]; have := grow_len (next := next) (x := l.getD i default) (l := l) s; omega)) ?_
  refine oP rfl (pure_load_pel_agg rfl ag74 sz74 rfl rfl sz74 (mget (by have := grow_len (next := next) (x := l.getD i default) (l := l) s; omega))) ?_
  refine xA tb hM0 1 [1,2,3,8,10,11,12,13,14,15,35,36,39,43,44] [8,10,21,25,33,41,42] rfl ?_
  refine oP rfl (pure_call rfl rfl rfl (by have e : (grow next (l.getD i default) l s).getD (i : Int).toNat default = l.getD i default := grow_at s hi; rw [e]; exact hg _ hxU s (by omega)) hM0) ?_
  refine xA tb hM0 8 [1,2,3,8,10,11,12,13,14,15,16,35,36,47,48] [8,10,16,21,25,33,41,42] rfl ?_
  refine oP rfl (pure_tupl (pure_mlookK2 keyed74 rfl Tryz.underlying122 zv3 rfl rfl rfl ((hkn (by omega)).choose_spec) (fun q hq => by obtain ⟨z, hz, rfl⟩ := List.mem_map.1 hq; exact pk_ok (hS z (hsb z hz))) (hnd2) ((look_x (kv := kvP) kvP_inj _ _)) ((has_x (kv := kvP) kvP_inj _ _)))) ?_
  refine xA tb hM0 7 [1,2,3,8,10,11,12,13,14,15,16,17,18,35,36] [8,10,16,21,25,33,41,42] rfl ?_
  refine ct (fun zs => zs = ⟨89, [(1, .v .mx (natI size)), (2, .v .mx (.clo g cg)), (3, .v .mx (.clo h ch)), (8, .pbox 8 0), (10, .pbox 10 0), (11, .omap 21), (12, .own 25), (13, .v .pl (int i)), (14, .own 33), (15, .v .pl (int s)), (17, .v .pl (natI (idx (grow next (l.getD i default) l (s + 1)) (next (l.getD i default) s)))), (35, .v .pl (natI size)), (36, .v .pl (int s))], [(8, .box 31 [.v .pl (.sc (.int .i64 0)), .v .pl (.sc (.slice none 0 0)), .v .pl (.sc (.slice none 0 0))]), (10, .box 31 [.v .pl (natI size), .own 41, .own 42]), (21, .mp ((grow next (l.getD i default) l (s + 1)).map kvP) (vsC (grow next (l.getD i default) l (s + 1)).length)), (25, .arr 74 ((grow next (l.getD i default) l (s + 1)).map pairI)), (33, .arr 3 ((rB next size (l.getD i default) l s).map int)), (41, .arr 22 ((rowsX next size l (l.take i)).map ints)), (42, .arr 4 ((finX final (l.take i)).map bool))]⟩) ?_ ?_
  refine xA tb hM0 6 [1,2,3,8,10,11,12,13,14,15,16,17,35,36,53] [8,10,16,21,25,33,41,42] rfl ?_
  refine spC 53 rfl ?_ ?_ <;> intro h3 <;> try simp only [dq] at h3
  refine xA tb hM0 4 [1,2,3,8,10,11,12,13,14,15,16,35,36,54] [8,10,16,21,25,33,41,42] rfl ?_
  refine oP rfl (pure_lenm rfl Tryz.underlying123 rfl) ?_
  refine xA tb hM0 10 [1,2,3,8,10,11,12,13,14,15,16,17,35,36,57] [8,10,16,21,25,33,41,42] rfl ?_
  refine spC 57 rfl ?_ ?_ <;> intro h4 <;> try simp only [dq] at h4
  have hlt := grow_lt (s := s) hL1_0.met hU hxU (by omega) (by assumption)
  omega
  --done
  refine xA tb hM0 8 [1,2,3,8,10,11,12,13,14,15,16,17,35,36,59,60,61] [8,10,16,21,25,33,41,42] rfl ?_
  refine oS rfl (step_putK keyed74 rfl rfl rfl Tryz.underlying122 rfl rfl rfl rfl ((hkn (by omega)).choose_spec) (fun q hq => by obtain ⟨z, hz, rfl⟩ := List.mem_map.1 hq; exact pk_ok (hS z (hsb z hz))) (hnd2) hM0) rfl ?_
  refine xA tb hM0 5 [1,2,3,8,10,11,13,14,15,17,35,36,62,63] [8,10,21,25,33,41,42] rfl ?_
  refine oP rfl (pure_lit rfl Tryz.underlying123 el74 rfl rfl rfl rfl hM0) ?_
  refine oS rfl (step_append rfl rfl rfl rfl Tryz.underlying123 el74 rfl rfl hM0 (src_pl rfl (one_len (by rfl))) (by rw [List.length_map]; simp only [List.length_cons, List.length_nil]; omega) (by rw [List.length_map]; simp only [List.length_cons, List.length_nil]; omega)) rfl ?_
  refine xA tb hM0 2 [1,2,3,8,10,11,12,13,14,15,17,35,36] [8,10,21,25,33,41,42] rfl ?_
  refine cx ?_
  have q := (by assumption : next (l.getD i default) s ∉ (grow next (l.getD i default) l s))
  rw [show (Value.agg #[Value.int .i64 ((next (l.getD i default) s).1 : Nat), Value.int .i64 ((next (l.getD i default) s).2 : Nat)]) = kvP (next (l.getD i default) s) from rfl, grow_new q, idx_new q, put_kx (kv := kvP) kvP_inj q, put_vx (kv := kvP) kvP_inj q, List.map_append (f := pairI)]
  rfl
  refine xA tb hM0 2 [1,2,3,8,10,11,12,13,14,15,17,35,36] [8,10,21,25,33,41,42] rfl ?_
  refine cx ?_
  rw [grow_old (by assumption), if_pos (by assumption)]
  rintro zs ⟨rfl⟩
  refine xA tb hM0 4 [1,2,3,8,10,11,12,13,14,35,36,66,67,68] [8,10,21,25,33,41,42] rfl ?_
  refine oP rfl (pure_index_own rfl Tryz.underlying22 sz3 rfl rfl rfl (by rw [List.length_map, rB_len (size := size) (s := s) (by omega)]; omega)) ?_
  refine oS rfl (step_store_pel rfl rfl rfl sz3 rfl rfl (mget (by rw [rB_len (size := size) (s := s) (by omega)]; omega)) rfl rfl (.inl rfl) rfl (Nat.le_of_ble_eq_true rfl) hM0) rfl ?_
  refine xA tb hM0 4 [1,2,3,8,10,11,12,13,14,35,36] [8,10,21,25,33,41,42] rfl ?_
  refine oP rfl (pure_addi rfl rfl rfl (by omega)) ?_
  refine xA tb hM0 2 [1,2,3,8,10,11,12,13,14,35,36] [8,10,21,25,33,41,42] rfl ?_
  refine nx ?_
  refine ⟨_, ⟨s + 1, rfl, by omega, ?_⟩, by omega⟩
  rw [← rB_set (by omega)]; rfl
  refine xA tb hM0 7 [1,2,3,8,10,11,12,13,14] [8,10,21,25,33,41,42] rfl ?_
  refine code_frz 89 [(1, _), (2, _), (3, _), (8, _), (10, _), (11, _), (12, _), (13, _), (14, _)] [(8, _), (10, _), (21, _), (25, _), (41, _), (42, _)] hM0 rfl ⟨.inl rfl, .inl rfl, .inl rfl, .inl rfl, .inl rfl, .inl rfl, .inl rfl, .inl rfl, .inr ⟨_, _, rfl, rfl, rfl⟩, trivial⟩ ⟨rfl, rfl, rfl, rfl, rfl, rfl, trivial⟩ ?_
  obtain rfl : size = s := by omega
  refine xK tb hM0 4 [1,2,3,8,10,11,12,13,72,73] [8,10,21,25,41,42] rfl ?_
  refine oP rfl (pure_lit rfl Tryz.underlying28 el22 rfl rfl rfl rfl hM0) ?_
  refine oS rfl (step_append rfl rfl rfl rfl Tryz.underlying28 el22 rfl rfl hM0 (src_pl rfl (one_len (by rfl))) (by rw [List.length_map, rows_len, List.length_take]; simp only [List.length_cons, List.length_nil]; omega) (by rw [List.length_map, rows_len, List.length_take]; simp only [List.length_cons, List.length_nil]; omega)) rfl ?_
  refine xA tb hM0 4 [1,2,3,8,10,11,12,13] [8,10,21,25,41,42] rfl ?_
  refine code_draw mixed (by kernel_rfl) _ rfl ?_
  refine dl_pure rfl rfl rfl (pure_field_box rfl fd31_2 rfl rfl) ?_
  refine dl_pure rfl rfl rfl (pure_load_box rfl ag29 rfl rfl rfl) ?_
  refine dl_pure rfl rfl rfl (pure_move rfl rfl) ?_
  refine dl_pure rfl rfl rfl (pure_move rfl rfl) ?_
  refine dl_pure rfl rfl rfl (pure_move rfl rfl) ?_
  refine dl_pure rfl rfl rfl (pure_index_own rfl Tryz.underlying123 sz74 rfl rfl rfl (by rw [List.length_map]; have := grow_len (next := next) (x := l.getD i default) (l := l) size; omega)) ?_
  refine dl_pure rfl rfl rfl (pure_load_pel_agg rfl ag74 sz74 rfl rfl sz74 (mget (by have := grow_len (next := next) (x := l.getD i default) (l := l) size; omega))) ?_
  refine dpk 89 [(1,_),(2,_),(3,_),(8,_),(10,_),(11,_),(12,_),(13,_),(78,_),(79,_),(83,_)] [(8,_),(10,_),(21,_),(25,_),(41,_),(42,_)] rfl rfl rfl ?_
  refine dl_pure rfl rfl rfl (pure_call rfl rfl rfl (by have e : (grow next (l.getD i default) l size).getD (i : Int).toNat default = l.getD i default := grow_at size hi; rw [e]; exact hh _ hxU) hM0) ?_
  refine dl_pure rfl rfl rfl (pure_lit rfl Tryz.underlying29 el4 rfl rfl rfl rfl hM0) ?_
  refine dl_tails (by kernel_rfl) ?_
  refine tl_step rfl (step_append rfl rfl rfl rfl Tryz.underlying29 el4 rfl rfl hM0 (src_pl rfl (one_len (by rfl))) (by rw [List.length_map, fin_len, List.length_take]; simp only [List.length_cons, List.length_nil]; omega) (by rw [List.length_map, fin_len, List.length_take]; simp only [List.length_cons, List.length_nil]; omega)) ?_
  refine tl_pure rfl rfl rfl (pure_field_box rfl fd31_2 rfl rfl) ?_
  refine tl_step rfl (step_store_box_own rfl rfl rfl sz29 rfl rfl rfl rfl rfl hM0) ?_
  refine tl_nil ?_
  refine xD tb hM0 4 [1,2,3,8,10,11,12,30] [8,10,21,25,41,42] rfl ?_
  refine oP rfl (pure_addi rfl rfl rfl (by omega)) ?_
  refine xA tb hM0 2 [1,2,3,8,10,11,12,13] [8,10,21,25,41,42] rfl ?_
  refine nx ?_
  refine ⟨_, ⟨grow next (l.getD i default) l size, i + 1, rfl, hL1_0.step hU hN hi rfl, ?_⟩, by omega⟩
  rw [rows_step hL1_0.met hi rfl, fin_step hi rfl, List.map_append, List.map_append]; rfl
  refine xA tb hM0 7 [8,10] [8,10,41,42] rfl ?_
  refine code_frz 89 [(8, _), (10, _)] [(8, _)] hM0 rfl ⟨.inl rfl, .inr ⟨_, _, rfl, rfl, rfl⟩, trivial⟩ ⟨rfl, trivial⟩ ?_
  have e1 : l.take i = l := List.take_of_length_le (by omega)
  have e2 := hL1_0.fin (by omega)
  rw [e1]
  refine xK tb hM0 7 [] [] rfl ?_
  refine endC2_ret rfl rfl ?_
  refine ⟨?_, rfl⟩
  rw [e2]; rfl
end Go.Proofs.YtjimlkpfmbachaaGreat

