/-
  Contracts: how many words of a length are accepted.
-/
import Derived.Test.YtjimlkpfmbachaaGreatJ37
import Derived.Test.YtjimlkpfmbachaaGreatJ28
import Derived.Test.YtjimlkpfmbachaaGreatJ19
import Derived.Test.YtjimlkpfmbachaaGreatJ20
set_option linter.unusedVariables false
set_option linter.unusedSectionVars false
set_option linter.unusedSimpArgs false
namespace Go.Proofs.YtjimlkpfmbachaaGreat
open Go.Am Go.Wc Go.Wb Go.Wd
set_option linter.unusedVariables false
set_option linter.unusedSimpArgs false
theorem fn44 : FnC2 Tryz.prog 44 Tryz.f44.ntmps 8 31 3 9 (Tryz.f44.body.getD .skip) := ⟨Tryz.f44, Tryz.func44, rfl, rfl, rfl, by kernel_rfl, ag31, sz31⟩
set_option maxRecDepth 100000 in
set_option maxHeartbeats 8000000 in
theorem exploreO_call {next : Rx → Nat → Rx} {final : Rx → Bool} {size N : Nat} {start : Rx} {U : List Rx} (hsz : 1 ≤ size ∧ size ≤ 64) (hU : ∀ x ∈ U, ∀ s, s < size → next x s ∈ U) (h0 : start ∈ U) (hN : U.length ≤ N) (hB : U.length ≤ 2048) (hI : ∀ a ∈ U, ∀ b ∈ U, kvR a = kvR b → a = b)
    (hg : ∀ (μ : List Rx) (x : Rx) (s : Nat), x ∈ μ → (∀ y ∈ μ, y ∈ U) → s < size → CallO Tryz.prog 45 [.v .pl (encR x), .v .pl (natI s), .pbox 1000003 0, .pbox 1000001 0] (OO μ) (.v .pl (encR (next x s))) (OO (addK μ (next x s))))
    (hh : ∀ (μ : List Rx) (x : Rx), x ∈ μ → (∀ y ∈ μ, y ∈ U) → CallO Tryz.prog 47 [.v .pl (encR x), .pbox 1000001 0] (OM μ) (.v .pl (bool (final x))) (OM μ)) :
    CallO Tryz.prog 44 [.v .pl (encR start), .v .mx (natI size), .fn 45 [.bx 1000003, .bx 1000001], .fn 47 [.bx 1000001]] (OO [start]) (.v .pl (.tup [dfa (mkD next size final (reach next size N start)), bool true])) (OO (reach next size N start)) := by
  refine callO_of_codeC2 fn44 (Nat.le_of_ble_eq_true rfl) fun w0 M0 hM0 => ?_
  refine xC tb hM0 16 [0,1,2,3,8,10] [8,10,1000001,1000002,1000003] rfl ?_
  refine oS rfl (step_map rfl rfl rfl rfl rfl Tryz.underlying97 (fun q hq => by cases hq <;> exact ⟨_, _, rfl⟩) hM0) rfl ?_
  refine xA tb hM0 1 [0,1,2,3,8,10,21,22] [8,10,21,1000001,1000002,1000003] rfl ?_
  refine oS rfl (step_insert rfl (step_put rfl rfl rfl Tryz.underlying97 Tryz.underlying9 rfl rfl rfl rfl trivial (fun q hq => by cases hq) hM0)) rfl ?_
  refine xA tb hM0 7 [1,2,3,8,10,11,24] [8,10,21,1000001,1000002,1000003] rfl ?_
  refine oS rfl (step_lit rfl rfl rfl rfl Tryz.underlying98 el9 rfl rfl rfl rfl hM0) rfl ?_
  refine xA tb hM0 5 [1,2,3,8,10,11,12] [8,10,21,25,1000001,1000002,1000003] rfl ?_
  refine code_nilown 10 1 41 22 31 hM0 rfl rfl rfl rfl ?_
  refine code_nilown 10 2 42 4 31 hM0 rfl rfl rfl rfl ?_
  refine xK tb hM0 5 [1,2,3,8,10,11,12,13] [8,10,21,25,41,42,1000001,1000002,1000003] rfl ?_
  refine lp (fun zm zs => ∃ (l : List Rx) (i : Nat), zm = N + 1 - i ∧ (Ex next size U start N l i) ∧ zs = ⟨89, [(1, .v .mx (natI size)), (2, .fn 45 [.bx 1000003, .bx 1000001]), (3, .fn 47 [.bx 1000001]), (8, .pbox 8 0), (10, .pbox 10 0), (11, .omap 21), (12, .own 25), (13, .v .pl (int i))], [(8, .box 31 [.v .pl (.sc (.int .i64 0)), .v .pl (.sc (.slice none 0 0)), .v .pl (.sc (.slice none 0 0))]), (10, .box 31 [.v .pl (natI size), .own 41, .own 42]), (21, .mp (l.map kvR) (vsC l.length)), (25, .arr 9 (l.map encR)), (41, .arr 22 ((rowsX next size l (l.take i)).map ints)), (42, .arr 4 ((finX final (l.take i)).map bool)), (1000001, .box 58 [.omap 1000002]), (1000002, .mp (l.map kvR) (l.map rx)), (1000003, .box 62 [.fn 41 [.bx 1000001]])]⟩) ?_ ?_
  refine ⟨_, [start], 0, rfl, ex_start h0, ?_⟩
  rfl
  rintro zm zs ⟨l, i, rfl, hL1_0, rfl⟩
  have hle := hL1_0.le
  refine xA tb hM0 5 [1,2,3,8,10,11,12,13,26,27] [8,10,21,25,41,42,1000001,1000002,1000003] rfl ?_
  refine oP rfl (pure_lenm rfl Tryz.underlying98 rfl) ?_
  refine xA tb hM0 3 [1,2,3,8,10,11,12,13,29] [8,10,21,25,41,42,1000001,1000002,1000003] rfl ?_
  refine spC 29 rfl ?_ ?_ <;> intro h1 <;> try simp only [dq] at h1
  refine xA tb hM0 8 [1,2,3,8,10,11,12,13,32] [8,10,21,25,41,42,1000001,1000002,1000003] rfl ?_
  refine oS rfl (step_make rfl rfl rfl rfl Tryz.underlying22 el3 ze3 rfl rfl rfl (by omega) (by omega) (by omega) hM0) rfl ?_
  refine xA tb hM0 7 [1,2,3,8,10,11,12,13,14,34] [8,10,21,25,33,41,42,1000001,1000002,1000003] rfl ?_
  refine oP rfl (pure_toi (a' := (size : Int)) (pure_len rfl Tryz.underlying22 rfl) (by simp)) ?_
  refine xA tb hM0 4 [1,2,3,8,10,11,12,13,14,35,36] [8,10,21,25,33,41,42,1000001,1000002,1000003] rfl ?_
  have hi : i < l.length := by omega
  have hxU := hL1_0.met.sub _ (el_mem hi)
  refine lp (fun zm zs => ∃ s : Nat, zm = size - s ∧ (s ≤ size) ∧ zs = ⟨89, [(1, .v .mx (natI size)), (2, .fn 45 [.bx 1000003, .bx 1000001]), (3, .fn 47 [.bx 1000001]), (8, .pbox 8 0), (10, .pbox 10 0), (11, .omap 21), (12, .own 25), (13, .v .pl (int i)), (14, .own 33), (35, .v .pl (natI size)), (36, .v .pl (int s))], [(8, .box 31 [.v .pl (.sc (.int .i64 0)), .v .pl (.sc (.slice none 0 0)), .v .pl (.sc (.slice none 0 0))]), (10, .box 31 [.v .pl (natI size), .own 41, .own 42]), (21, .mp ((grow next (l.getD i default) l s).map kvR) (vsC (grow next (l.getD i default) l s).length)), (25, .arr 9 ((grow next (l.getD i default) l s).map encR)), (33, .arr 3 ((rB next size (l.getD i default) l s).map int)), (41, .arr 22 ((rowsX next size l (l.take i)).map ints)), (42, .arr 4 ((finX final (l.take i)).map bool)), (1000001, .box 58 [.omap 1000002]), (1000002, .mp ((grow next (l.getD i default) l s).map kvR) ((grow next (l.getD i default) l s).map rx)), (1000003, .box 62 [.fn 41 [.bx 1000001]])]⟩) ?_ ?_
  refine ⟨_, 0, rfl, Nat.zero_le _, ?_⟩
  rw [rB_zero, ← rep_mapI]; rfl
  rintro zm zs ⟨s, rfl, hL2_0, rfl⟩
  have hgl := grow_le hL1_0.met hU hxU hL2_0
  have hin : s < size → ∀ b ∈ (grow next (l.getD i default) l s), kvR b = kvR (next (l.getD i default) s) → b = next (l.getD i default) s := fun h b hb e => hI b (grow_sub hL1_0.met hU hxU hL2_0 b hb) _ (hU _ hxU s h) e
  have hgx : (grow next (l.getD i default) l s).getD i default = (l.getD i default) := grow_at s hi
  have hgl3 := grow_len (next := next) (x := (l.getD i default)) (l := l) s
  refine xA tb hM0 6 [1,2,3,8,10,11,12,13,14,35,36,37] [8,10,21,25,33,41,42,1000001,1000002,1000003] rfl ?_
  refine spC 37 rfl ?_ ?_ <;> intro h2 <;> try simp only [dq] at h2
  refine xA tb hM0 11 [1,2,3,8,10,11,12,13,14,15,35,36] [8,10,21,25,33,41,42,1000001,1000002,1000003] rfl ?_
  refine ct (fun zs => zs = ⟨89, [(1, .v .mx (natI size)), (2, .fn 45 [.bx 1000003, .bx 1000001]), (3, .fn 47 [.bx 1000001]), (8, .pbox 8 0), (10, .pbox 10 0), (11, .omap 21), (12, .own 25), (13, .v .pl (int i)), (14, .own 33), (15, .v .pl (int s)), (16, .v .pl (encR (next (l.getD i default) s))), (35, .v .pl (natI size)), (36, .v .pl (int s))], [(8, .box 31 [.v .pl (.sc (.int .i64 0)), .v .pl (.sc (.slice none 0 0)), .v .pl (.sc (.slice none 0 0))]), (10, .box 31 [.v .pl (natI size), .own 41, .own 42]), (21, .mp ((grow next (l.getD i default) l s).map kvR) (vsC (grow next (l.getD i default) l s).length)), (25, .arr 9 ((grow next (l.getD i default) l s).map encR)), (33, .arr 3 ((rB next size (l.getD i default) l s).map int)), (41, .arr 22 ((rowsX next size l (l.take i)).map ints)), (42, .arr 4 ((finX final (l.take i)).map bool)), (1000001, .box 58 [.omap 1000002]), (1000002, .mp ((grow next (l.getD i default) l (s + 1)).map kvR) ((grow next (l.getD i default) l (s + 1)).map rx)), (1000003, .box 62 [.fn 41 [.bx 1000001]])]⟩) ?_ ?_
  refine xA tb hM0 4 [1,2,3,8,10,11,12,13,14,15,35,36,39,40,41] [8,10,21,25,33,41,42,1000001,1000002,1000003] rfl ?_
  refine oP rfl (pure_index_own rfl Tryz.underlying98 sz9 rfl rfl rfl (by rw [List.length_map]; have := grow_len (next := next) (x := l.getD i default) (l := l) s; omega)) ?_
  refine oP rfl (pure_load_pel rfl ag9 rfl rfl (mget (by have := grow_len (next := next) (x := l.getD i default) (l := l) s; omega)) rfl) ?_
  refine xA tb hM0 1 [1,2,3,8,10,11,12,13,14,15,35,36,39,43,44] [8,10,21,25,33,41,42,1000001,1000002,1000003] rfl ?_
  refine oS rfl (step_callO [(1000001, 1000001), (1000002, 1000002), (1000003, 1000003)] rfl rfl rfl rfl rfl rfl rfl (hg (grow next (l.getD i default) l s) ((grow next (l.getD i default) l s).getD i default) s (el_mem (by omega)) (grow_sub hL1_0.met hU hxU hL2_0) (by omega)) ⟨.inl rfl, .inl rfl, .inl rfl, .inl rfl, trivial⟩ ⟨rfl, rfl, rfl, trivial⟩ rfl rfl rfl rfl rfl hM0) rfl ?_
  refine xA tb hM0 2 [1,2,3,8,10,11,12,13,14,15,16,35,36] [8,10,21,25,33,41,42,1000001,1000002,1000003] rfl ?_
  refine cx ?_
  exact (by rw [hgx]; first | done | rfl)
  rintro zs ⟨rfl⟩
  refine xA tb hM0 4 [1,2,3,8,10,11,12,13,14,15,16,35,36,47,48] [8,10,21,25,33,41,42,1000001,1000002,1000003] rfl ?_
  refine oP rfl (pure_tupl (pure_mlook2 rfl Tryz.underlying97 Tryz.underlying9 zv3 rfl rfl rfl trivial (fun q hq => by obtain ⟨_, _, rfl⟩ := List.mem_map.1 hq; trivial) (look_s (kv := kvR) (hin (by omega))) (has_s (kv := kvR) (hin (by omega))))) ?_
  refine xA tb hM0 7 [1,2,3,8,10,11,12,13,14,15,16,17,18,35,36] [8,10,21,25,33,41,42,1000001,1000002,1000003] rfl ?_
  refine ct (fun zs => zs = ⟨89, [(1, .v .mx (natI size)), (2, .fn 45 [.bx 1000003, .bx 1000001]), (3, .fn 47 [.bx 1000001]), (8, .pbox 8 0), (10, .pbox 10 0), (11, .omap 21), (12, .own 25), (13, .v .pl (int i)), (14, .own 33), (15, .v .pl (int s)), (17, .v .pl (natI (idx (grow next (l.getD i default) l (s + 1)) (next (l.getD i default) s)))), (35, .v .pl (natI size)), (36, .v .pl (int s))], [(8, .box 31 [.v .pl (.sc (.int .i64 0)), .v .pl (.sc (.slice none 0 0)), .v .pl (.sc (.slice none 0 0))]), (10, .box 31 [.v .pl (natI size), .own 41, .own 42]), (21, .mp ((grow next (l.getD i default) l (s + 1)).map kvR) (vsC (grow next (l.getD i default) l (s + 1)).length)), (25, .arr 9 ((grow next (l.getD i default) l (s + 1)).map encR)), (33, .arr 3 ((rB next size (l.getD i default) l s).map int)), (41, .arr 22 ((rowsX next size l (l.take i)).map ints)), (42, .arr 4 ((finX final (l.take i)).map bool)), (1000001, .box 58 [.omap 1000002]), (1000002, .mp ((grow next (l.getD i default) l (s + 1)).map kvR) ((grow next (l.getD i default) l (s + 1)).map rx)), (1000003, .box 62 [.fn 41 [.bx 1000001]])]⟩) ?_ ?_
  refine xA tb hM0 6 [1,2,3,8,10,11,12,13,14,15,16,17,35,36,53] [8,10,21,25,33,41,42,1000001,1000002,1000003] rfl ?_
  refine spC 53 rfl ?_ ?_ <;> intro h3 <;> try simp only [dq] at h3
  refine xA tb hM0 4 [1,2,3,8,10,11,12,13,14,15,16,35,36,54] [8,10,21,25,33,41,42,1000001,1000002,1000003] rfl ?_
  refine oP rfl (pure_lenm rfl Tryz.underlying98 rfl) ?_
  refine xA tb hM0 10 [1,2,3,8,10,11,12,13,14,15,16,17,35,36,57] [8,10,21,25,33,41,42,1000001,1000002,1000003] rfl ?_
  refine spC 57 rfl ?_ ?_ <;> intro h4 <;> try simp only [dq] at h4
  have hlt := grow_lt (s := s) hL1_0.met hU hxU (by omega) (by assumption)
  omega
  --done
  refine xA tb hM0 8 [1,2,3,8,10,11,12,13,14,15,16,17,35,36,59,60,61] [8,10,21,25,33,41,42,1000001,1000002,1000003] rfl ?_
  refine oS rfl (step_put rfl rfl rfl Tryz.underlying97 Tryz.underlying9 rfl rfl rfl rfl trivial (fun q hq => by obtain ⟨_, _, rfl⟩ := List.mem_map.1 hq; trivial) hM0) rfl ?_
  refine xA tb hM0 5 [1,2,3,8,10,11,13,14,15,17,35,36,62,63] [8,10,21,25,33,41,42,1000001,1000002,1000003] rfl ?_
  refine oP rfl (pure_lit rfl Tryz.underlying98 el9 rfl rfl rfl rfl hM0) ?_
  refine oS rfl (step_append rfl rfl rfl rfl Tryz.underlying98 el9 rfl rfl hM0 (src_pl rfl (one_len (by rfl))) (by rw [List.length_map]; simp only [List.length_cons, List.length_nil]; omega) (by rw [List.length_map]; simp only [List.length_cons, List.length_nil]; omega)) rfl ?_
  refine xA tb hM0 2 [1,2,3,8,10,11,12,13,14,15,17,35,36] [8,10,21,25,33,41,42,1000001,1000002,1000003] rfl ?_
  refine cx ?_
  have q := (by assumption : next (l.getD i default) s ∉ (grow next (l.getD i default) l s))
  rw [show (kvR (next (l.getD i default) s)) = kvR (next (l.getD i default) s) from rfl, grow_new q, idx_new q, put_ks (kv := kvR) (hin (by omega)) q, put_vs (kv := kvR) (hin (by omega)) q, List.map_append (f := encR)]
  rfl
  refine xA tb hM0 2 [1,2,3,8,10,11,12,13,14,15,17,35,36] [8,10,21,25,33,41,42,1000001,1000002,1000003] rfl ?_
  refine cx ?_
  rw [grow_old (by assumption), if_pos (by assumption)]
  rintro zs ⟨rfl⟩
  refine xA tb hM0 4 [1,2,3,8,10,11,12,13,14,35,36,66,67,68] [8,10,21,25,33,41,42,1000001,1000002,1000003] rfl ?_
  refine oP rfl (pure_index_own rfl Tryz.underlying22 sz3 rfl rfl rfl (by rw [List.length_map, rB_len (size := size) (s := s) (by omega)]; omega)) ?_
  refine oS rfl (step_store_pel rfl rfl rfl sz3 rfl rfl (mget (by rw [rB_len (size := size) (s := s) (by omega)]; omega)) rfl rfl (.inl rfl) rfl (Nat.le_of_ble_eq_true rfl) hM0) rfl ?_
  refine xA tb hM0 4 [1,2,3,8,10,11,12,13,14,35,36] [8,10,21,25,33,41,42,1000001,1000002,1000003] rfl ?_
  refine oP rfl (pure_addi rfl rfl rfl (by omega)) ?_
  refine xA tb hM0 2 [1,2,3,8,10,11,12,13,14,35,36] [8,10,21,25,33,41,42,1000001,1000002,1000003] rfl ?_
  refine nx ?_
  refine ⟨_, ⟨s + 1, rfl, by omega, ?_⟩, by omega⟩
  rw [← rB_set (by omega)]; rfl
  refine xA tb hM0 7 [1,2,3,8,10,11,12,13,14] [8,10,21,25,33,41,42,1000001,1000002,1000003] rfl ?_
  refine code_frz 89 [(1, _), (2, _), (3, _), (8, _), (10, _), (11, _), (12, _), (13, _), (14, _)] [(8, _), (10, _), (21, _), (25, _), (41, _), (42, _), (1000001, _), (1000002, _), (1000003, _)] hM0 rfl ⟨.inl rfl, .inl rfl, .inl rfl, .inl rfl, .inl rfl, .inl rfl, .inl rfl, .inl rfl, .inr ⟨_, _, rfl, rfl, rfl⟩, trivial⟩ ⟨rfl, rfl, rfl, rfl, rfl, rfl, rfl, rfl, rfl, trivial⟩ ?_
  obtain rfl : size = s := by omega
  refine xK tb hM0 4 [1,2,3,8,10,11,12,13,72,73] [8,10,21,25,41,42,1000001,1000002,1000003] rfl ?_
  refine oP rfl (pure_lit rfl Tryz.underlying28 el22 rfl rfl rfl rfl hM0) ?_
  refine oS rfl (step_append rfl rfl rfl rfl Tryz.underlying28 el22 rfl rfl hM0 (src_pl rfl (one_len (by rfl))) (by rw [List.length_map, rows_len, List.length_take]; simp only [List.length_cons, List.length_nil]; omega) (by rw [List.length_map, rows_len, List.length_take]; simp only [List.length_cons, List.length_nil]; omega)) rfl ?_
  refine xA tb hM0 4 [1,2,3,8,10,11,12,13] [8,10,21,25,41,42,1000001,1000002,1000003] rfl ?_
  have hgl3 := grow_len (next := next) (x := (l.getD i default)) (l := l) size
  refine code_draw1e (n := 89) 7 9 [(77, .pbox 10 2), (78, .own 42), (79, .fn 47 [.bx 1000001]), (80, .own 25), (81, .v .pl (int i)), (82, .pel 25 (i : Int).toNat 0), (83, .v .pl (encR ((grow next (l.getD i default) l size).getD i default))), (84, .v .pl (bool (final ((grow next (l.getD i default) l size).getD i default)))), (85, .v .pl (.sl [bool (final ((grow next (l.getD i default) l size).getD i default))])), (1, .v .mx (natI size)), (2, .fn 45 [.bx 1000003, .bx 1000001]), (3, .fn 47 [.bx 1000001]), (8, .pbox 8 0), (10, .pbox 10 0), (11, .omap 21), (12, .own 25), (13, .v .pl (int i))] mixed (by kernel_rfl) (by kernel_rfl) (by kernel_rfl) rfl (fun t z h => h) rfl ?_ ?_ ?_ ?_
  · intro zi zt hzi hzd
    rcases (by omega : zi = 0 ∨ zi = 1 ∨ zi = 2 ∨ zi = 3 ∨ zi = 4 ∨ zi = 5 ∨ zi = 6 ∨ zi = 7 ∨ zi = 8) with rfl | rfl | rfl | rfl | rfl | rfl | rfl | rfl | rfl <;> (injection (show some _ = some zt from hzd) with hzd; subst hzd; exact ⟨_, rfl⟩)
  · intro zi zo zt zd hzi hza hzo hzd hzG
    rcases (by omega : zi = 0 ∨ zi = 1 ∨ zi = 2 ∨ zi = 3 ∨ zi = 4 ∨ zi = 5 ∨ zi = 6 ∨ zi = 8) with rfl | rfl | rfl | rfl | rfl | rfl | rfl | rfl
    · injection (show some _ = some zo from hzo) with hzo; subst hzo; injection (show some _ = some zt from hzd) with hzd; subst hzd; injection (show some _ = some zd from hzG) with hzG; subst hzG
      exact pure_field_box rfl fd31_2 rfl rfl
    · injection (show some _ = some zo from hzo) with hzo; subst hzo; injection (show some _ = some zt from hzd) with hzd; subst hzd; injection (show some _ = some zd from hzG) with hzG; subst hzG
      exact pure_load_box rfl ag29 rfl rfl rfl
    · injection (show some _ = some zo from hzo) with hzo; subst hzo; injection (show some _ = some zt from hzd) with hzd; subst hzd; injection (show some _ = some zd from hzG) with hzG; subst hzG
      exact pure_move rfl rfl
    · injection (show some _ = some zo from hzo) with hzo; subst hzo; injection (show some _ = some zt from hzd) with hzd; subst hzd; injection (show some _ = some zd from hzG) with hzG; subst hzG
      exact pure_move rfl rfl
    · injection (show some _ = some zo from hzo) with hzo; subst hzo; injection (show some _ = some zt from hzd) with hzd; subst hzd; injection (show some _ = some zd from hzG) with hzG; subst hzG
      exact pure_move rfl rfl
    · injection (show some _ = some zo from hzo) with hzo; subst hzo; injection (show some _ = some zt from hzd) with hzd; subst hzd; injection (show some _ = some zd from hzG) with hzG; subst hzG
      exact pure_index_own rfl Tryz.underlying98 sz9 rfl rfl rfl (by rw [List.length_map]; omega)
    · injection (show some _ = some zo from hzo) with hzo; subst hzo; injection (show some _ = some zt from hzd) with hzd; subst hzd; injection (show some _ = some zd from hzG) with hzG; subst hzG
      exact pure_load_pel rfl ag9 rfl rfl (mget (by omega)) rfl
    · injection (show some _ = some zo from hzo) with hzo; subst hzo; injection (show some _ = some zt from hzd) with hzd; subst hzd; injection (show some _ = some zd from hzG) with hzG; subst hzG
      exact pure_lit rfl Tryz.underlying29 el4 rfl rfl rfl rfl hM0
  · intro zo X' hzo hXn hXG hXr
    have hXu : 79 ∈ looks _ zo → X'.lookup 79 = some (.fn 47 [.bx 1000001]) := fun h => (hXr 79 h).trans rfl
    have hXv : 83 ∈ looks _ zo → X'.lookup 83 = some (.v .pl (encR ((grow next (l.getD i default) l size).getD i default))) := fun h => (hXr 83 h).trans rfl
    injection (show some _ = some zo from hzo) with hzo'
    exact step_callOD (t := 84) (u := 79) (v := 83) (f := 47) (cp := [.bx 1000001]) (cs := [.pbox 1000001 0]) (ats := #[9]) (by rw [← hzo']; rfl) (by rw [← hzo']; rfl) rfl hXn (hXu (by rw [← hzo']; decide)) (hXv (by rw [← hzo']; decide)) rfl (hh (grow next (l.getD i default) l size) ((grow next (l.getD i default) l size).getD i default) (el_mem (by omega)) (grow_sub hL1_0.met hU hxU (Nat.le_refl _))) (fun c hc => by rw [List.mem_singleton.1 hc]; rfl) ⟨rfl, rfl, trivial⟩ rfl rfl rfl rfl (fun t' z h hne => all_safe (u := 84) (by rfl) (hXG t' z h) hne) rfl hM0
  refine endL_of (n := 3) (by kernel_rfl) ?_
  refine ex_one (i := 9) (by kernel_rfl) rfl rfl (step_append rfl rfl rfl rfl Tryz.underlying29 el4 rfl rfl hM0 (src_pl rfl (one_len (by rfl))) (by rw [List.length_map, fin_len, List.length_take]; simp only [List.length_cons, List.length_nil]; omega) (by rw [List.length_map, fin_len, List.length_take]; simp only [List.length_cons, List.length_nil]; omega)) ?_
  refine ex_one (i := 10) (by kernel_rfl) rfl rfl (st_pure rfl rfl (pure_field_box rfl fd31_2 rfl rfl)) ?_
  refine ex_one (i := 11) (by kernel_rfl) rfl rfl (step_store_box_own rfl rfl rfl sz29 rfl rfl rfl rfl rfl hM0) ?_
  refine ex_end (by kernel_rfl) ?_
  refine xD tb hM0 4 [1,2,3,8,10,11,12,30] [8,10,21,25,41,42,1000001,1000002,1000003] rfl ?_
  refine oP rfl (pure_addi rfl rfl rfl (by omega)) ?_
  refine xA tb hM0 2 [1,2,3,8,10,11,12,13] [8,10,21,25,41,42,1000001,1000002,1000003] rfl ?_
  refine nx ?_
  have e9 : final ((grow next (l.getD i default) l size).getD i default) = final (l.getD i default) := by rw [grow_at (next := next) size hi]
  refine ⟨_, ⟨grow next (l.getD i default) l size, i + 1, rfl, hL1_0.step hU hN hi rfl, ?_⟩, by omega⟩
  rw [rows_step hL1_0.met hi rfl, fin_step hi rfl, List.map_append, List.map_append, ← e9]; rfl
  refine xA tb hM0 7 [8,10] [8,10,41,42,1000001,1000002,1000003] rfl ?_
  refine code_frz 89 [(8, _), (10, _)] [(8, _), (1000001, _), (1000002, _), (1000003, _)] hM0 rfl ⟨.inl rfl, .inr ⟨_, _, rfl, rfl, rfl⟩, trivial⟩ ⟨rfl, rfl, rfl, rfl, trivial⟩ ?_
  have e1 : l.take i = l := List.take_of_length_le (by omega)
  have e2 := hL1_0.fin (by omega)
  rw [e1]
  refine xK tb hM0 7 [] [] rfl ?_
  refine endOC2_ret (o1 := [(1000001, _), (1000002, _), (1000003, _)]) rfl rfl ⟨rfl, rfl, rfl, trivial⟩ ?_
  rw [e2]
  exact ⟨⟨rfl, rfl⟩, rfl⟩
end Go.Proofs.YtjimlkpfmbachaaGreat

namespace Go.Proofs.YtjimlkpfmbachaaGreat
open Go.Am Go.Wc Go.Wb Go.Wd
set_option linter.unusedVariables false
set_option linter.unusedSimpArgs false
theorem fn21 : Fn1 Tryz.prog 21 Tryz.f21.ntmps 4 (Tryz.f21.body.getD .skip) := ⟨Tryz.f21, Tryz.func21, rfl, rfl, rfl, by kernel_rfl⟩
set_option maxRecDepth 100000 in
set_option maxHeartbeats 8000000 in
theorem countD_call {d : Dfa} {n : Int} : CallF Tryz.prog 21 [dfa d, int n] (.p (u64I (countZ d n))) := by
  refine callF_of_code fn21 (Nat.le_of_ble_eq_true rfl) fun w0 M0 hM0 => ?_
  refine xC tb hM0 2 [0,1] [] rfl ?_
  refine oP rfl (pure_box rfl rfl rfl hM0) ?_
  refine xA tb hM0 7 [1,2,14] [] rfl ?_
  refine oP rfl (pure_call rfl rfl rfl (validD_call) hM0) ?_
  refine xA tb hM0 2 [1,2,17] [] rfl ?_
  refine spO 17 rfl ?_ ?_ <;> intro h1' <;> try simp only [dq] at h1'
  refine xA tb hM0 17 [] [] rfl ?_
  refine end_ret rfl ?_; rotate_left
  refine xA tb hM0 4 [1,2,21] [] rfl ?_
  refine spO 21 rfl ?_ ?_ <;> intro h2' <;> try simp only [dq] at h2'
  refine xA tb hM0 13 [] [] rfl ?_
  refine end_ret rfl ?_; rotate_left
  refine xA tb hM0 5 [1,2,24] [] rfl ?_
  refine spC 24 rfl ?_ ?_ <;> intro h3 <;> try simp only [dq] at h3
  refine xA tb hM0 8 [] [] rfl ?_
  refine end_ret rfl ?_; rotate_left
  have hd := valid_ok (d := d) (by assumption)
  have hn : d.n = d.next.length := rfl
  have hb := hd.1
  have hkk := kk hd
  have hfn : d.fin.length = d.n := hb.2.2
  refine xA tb hM0 7 [1,2,26] [] rfl ?_
  refine oP rfl (pure_lenm rfl Tryz.underlying28 rfl) ?_
  refine oS rfl (step_make rfl rfl rfl rfl Tryz.underlying79 el45 ze45 rfl rfl rfl (by omega) (by omega) (by omega) hM0) rfl ?_
  refine xA tb hM0 6 [1,2,5,29] [28] rfl ?_
  refine oP rfl (pure_index_own rfl Tryz.underlying79 sz45 rfl rfl rfl (by rw [List.length_replicate]; omega)) ?_
  refine oS rfl (step_store_pel rfl rfl rfl sz45 rfl rfl (rep_get (by omega)) rfl rfl (.inl rfl) rfl (Nat.le_of_ble_eq_true rfl) hM0) rfl ?_
  refine xA tb hM0 4 [1,2,5] [28] rfl ?_
  refine code_frz 82 [(1, _), (2, _), (5, _)] [] hM0 rfl ⟨.inl rfl, .inl rfl, .inr ⟨_, _, rfl, rfl, rfl⟩, trivial⟩ trivial ?_
  refine xK tb hM0 6 [2,5,31,32] [] rfl ?_
  refine lp (fun zm zs => ∃ t : Nat, zm = n.toNat - t ∧ ((t : Int) ≤ n) ∧ zs = ⟨82, [(2, .v .mx (dpc d)), (5, .v .pl (.sl (((cVec d t)).map u64I))), (31, .v .mx (int n)), (32, .v .pl (int t))], []⟩) ?_ ?_
  refine ⟨_, 0, rfl, by omega, ?_⟩
  rw [← cVec_0, ← rep_mapU]; rfl
  rintro zm zs ⟨t, rfl, hL1_0, rfl⟩
  have hcv := cVec_len (d := d) t
  refine xA tb hM0 6 [2,5,31,32,33] [] rfl ?_
  refine spC 33 rfl ?_ ?_ <;> intro h4 <;> try simp only [dq] at h4
  refine xA tb hM0 8 [2,5,31,32,34] [] rfl ?_
  refine oP rfl (pure_lenm rfl Tryz.underlying79 rfl) ?_
  refine oS rfl (step_make rfl rfl rfl rfl Tryz.underlying79 el45 ze45 rfl rfl rfl (by omega) (by omega) (by omega) hM0) rfl ?_
  refine xA tb hM0 8 [2,5,6,31,32,38] [36] rfl ?_
  refine oP rfl (pure_lenm rfl Tryz.underlying28 rfl) ?_
  refine xA tb hM0 4 [2,5,6,31,32,38,39,40] [36] rfl ?_
  refine lp (fun zm zs => ∃ i : Nat, zm = d.next.length - i ∧ (i ≤ d.next.length) ∧ zs = ⟨82, [(2, .v .mx (dpc d)), (5, .v .pl (.sl (((cVec d t)).map u64I))), (6, .own 36), (31, .v .mx (int n)), (32, .v .pl (int t)), (38, .v .mx (rowsA d.next)), (39, .v .pl (int d.next.length)), (40, .v .pl (int i))], [(36, .arr 45 ((cStepN d (cVec d t) i).map u64I))]⟩) ?_ ?_
  refine ⟨_, 0, rfl, Nat.zero_le _, ?_⟩
  rw [cStepN, ← rep_mapU, ← hcv]; rfl
  rintro zm zs ⟨i, rfl, hL2_0, rfl⟩
  have hcs := cStepN_len (d := d) (cVec d t) i
  refine xA tb hM0 6 [2,5,6,31,32,38,39,40,41] [36] rfl ?_
  refine spC 41 rfl ?_ ?_ <;> intro h5 <;> try simp only [dq] at h5
  refine xA tb hM0 8 [2,5,6,31,32,38,39,40,42] [36] rfl ?_
  refine oP rfl (pure_ix rfl Tryz.underlying28 sz22 rfl rfl (by omega) (fun _ => rfl)) ?_
  refine xA tb hM0 8 [2,5,6,7,31,32,38,39,40,45] [36] rfl ?_
  refine oP rfl (pure_lenm rfl Tryz.underlying22 rfl) ?_
  refine xA tb hM0 4 [2,5,6,7,31,32,38,39,40,45,46,47] [36] rfl ?_
  have hi : i < d.next.length := by omega
  have hrow := (hd.row hi).1
  refine lp (fun zm zs => ∃ s : Nat, zm = (d.next.getD i default).length - s ∧ (s ≤ (d.next.getD i default).length) ∧ zs = ⟨82, [(2, .v .mx (dpc d)), (5, .v .pl (.sl (((cVec d t)).map u64I))), (6, .own 36), (7, .v .pl (int i)), (31, .v .mx (int n)), (32, .v .pl (int t)), (38, .v .mx (rowsA d.next)), (39, .v .pl (int d.next.length)), (40, .v .pl (int i)), (45, .v .mx (ints (d.next.getD i default))), (46, .v .pl (int (d.next.getD i default).length)), (47, .v .pl (int s))], [(36, .arr 45 ((cRow d ((cVec d t).getD i default) i (cStepN d (cVec d t) i) s).map u64I))]⟩) ?_ ?_
  exact ⟨_, 0, rfl, Nat.zero_le _, rfl⟩
  rintro zm zs ⟨s, rfl, hL3_0, rfl⟩
  have hcl3 := cRow_len (d := d) ((cVec d t).getD i default) i (cStepN d (cVec d t) i) s
  rw [hcs] at hcl3
  refine xA tb hM0 6 [2,5,6,7,31,32,38,39,40,45,46,47,48] [36] rfl ?_
  refine spC 48 rfl ?_ ?_ <;> intro h6 <;> try simp only [dq] at h6
  refine xA tb hM0 5 [2,5,6,7,31,32,38,39,40,45,46,47] [36] rfl ?_
  refine ct (fun zs => zs = ⟨82, [(2, .v .mx (dpc d)), (5, .v .pl (.sl (((cVec d t)).map u64I))), (6, .own 36), (7, .v .pl (int i)), (10, .v .mx (natI (d.stp i s))), (31, .v .mx (int n)), (32, .v .pl (int t)), (38, .v .mx (rowsA d.next)), (39, .v .pl (int d.next.length)), (40, .v .pl (int i)), (45, .v .mx (ints (d.next.getD i default))), (46, .v .pl (int (d.next.getD i default).length)), (47, .v .pl (int s))], [(36, .arr 45 ((cRow d ((cVec d t).getD i default) i (cStepN d (cVec d t) i) s).map u64I))]⟩) ?_ ?_
  refine xA tb hM0 1 [2,5,6,7,31,32,38,39,40,45,46,47] [36] rfl ?_
  refine oP rfl (pure_ix rfl Tryz.underlying22 sz3 rfl rfl (by omega) (fun _ => rfl)) ?_
  refine xA tb hM0 3 [2,5,6,7,10,31,32,38,39,40,45,46,47] [36] rfl ?_
  refine cx ?_
  have hst := hd.cellN hi (k := s) (by omega)
  exact (by (try simp only [Int.toNat_natCast]); rw [hst]; first | done | rfl)
  rintro zs ⟨rfl⟩
  have hsl : d.stp i s < d.n := hd.stp hi (by omega)
  refine code_draw mixed (by kernel_rfl) _ rfl ?_
  refine dl_pure rfl rfl rfl (pure_move rfl rfl) ?_
  refine dl_pure rfl rfl rfl (pure_move rfl rfl) ?_
  refine dl_pure rfl rfl rfl (pure_index_own rfl Tryz.underlying79 sz45 rfl rfl rfl (by exact ⟨Int.natCast_nonneg _, by rw [List.length_map, hcl3]; exact Int.ofNat_lt.2 hsl⟩)) ?_
  refine dl_pure rfl rfl rfl (pure_load_pel rfl ag45 rfl rfl (mget (by rw [hcl3]; exact hsl)) rfl) ?_
  refine dl_pure rfl rfl rfl (pure_move rfl rfl) ?_
  refine dl_pure rfl rfl rfl (pure_move rfl rfl) ?_
  refine dl_pure rfl rfl rfl (pure_ix rfl Tryz.underlying79 sz45 rfl rfl (by omega) (fun _ => rfl)) ?_
  refine dpk 82 [(2,_),(5,_),(6,_),(7,_),(31,_),(32,_),(38,_),(39,_),(40,_),(45,_),(46,_),(47,_),(51,_),(52,_),(54,_),(57,_)] [(36,_)] rfl rfl rfl ?_
  refine dl_pure rfl rfl rfl (pure_load rfl ag45 rfl rfl) ?_
  refine dl_pure rfl rfl rfl (pure_add rfl rfl rfl) ?_
  refine dl_pure rfl rfl rfl (pure_index_own rfl Tryz.underlying79 sz45 rfl rfl rfl (by exact ⟨Int.natCast_nonneg _, by rw [List.length_map, hcl3]; exact Int.ofNat_lt.2 hsl⟩)) ?_
  refine dl_tails (by kernel_rfl) ?_
  refine tl_step rfl (step_store_pel rfl rfl rfl sz45 rfl rfl (mget (by rw [hcl3]; exact hsl)) rfl rfl (.inl rfl) rfl (Nat.le_of_ble_eq_true rfl) hM0) ?_
  refine tl_nil ?_
  refine xD tb hM0 3 [2,5,6,7,31,32,38,39,40,45,46,47] [36] rfl ?_
  refine oP rfl (pure_addi rfl rfl rfl (by omega)) ?_
  refine xA tb hM0 2 [2,5,6,7,31,32,38,39,40,45,46,47] [36] rfl ?_
  refine nx ?_
  refine ⟨_, ⟨s + 1, rfl, by omega, ?_⟩, by omega⟩
  rw [cRow, addAt_map]; rfl
  refine xA tb hM0 8 [2,5,6,31,32,38,39,40] [36] rfl ?_
  refine oP rfl (pure_addi rfl rfl rfl (by omega)) ?_
  refine xA tb hM0 2 [2,5,6,31,32,38,39,40] [36] rfl ?_
  refine nx ?_
  obtain rfl : s = d.k := by omega
  exact ⟨_, ⟨i + 1, rfl, by omega, rfl⟩, by omega⟩
  refine xA tb hM0 6 [2,6,31,32] [36] rfl ?_
  refine code_frz 82 [(2, _), (6, _), (31, _), (32, _)] [] hM0 rfl ⟨.inl rfl, .inr ⟨_, _, rfl, rfl, rfl⟩, .inl rfl, .inl rfl, trivial⟩ trivial ?_
  obtain rfl : i = d.n := by omega
  refine xK tb hM0 7 [2,5,31,32] [] rfl ?_
  refine oP rfl (pure_addi rfl rfl rfl (by omega)) ?_
  refine xA tb hM0 2 [2,5,31,32] [] rfl ?_
  refine nx ?_
  exact ⟨_, ⟨t + 1, rfl, by omega, rfl⟩, by omega⟩
  refine xA tb hM0 7 [2,5] [] rfl ?_
  obtain rfl : t = n.toNat := by omega
  refine xA tb hM0 9 [5,11,66] [] rfl ?_
  refine oP rfl (pure_lenm rfl Tryz.underlying29 rfl) ?_
  refine xA tb hM0 4 [5,11,66,67,68] [] rfl ?_
  refine lp (fun zm zs => ∃ i : Nat, zm = d.fin.length - i ∧ (i ≤ d.fin.length) ∧ zs = ⟨82, [(5, .v .pl (.sl ((cVec d n.toNat).map u64I))), (11, .v .pl (u64I (cSum d (cVec d n.toNat) i))), (66, .v .mx (boolsA d.fin)), (67, .v .pl (int d.fin.length)), (68, .v .pl (int i))], []⟩) ?_ ?_
  exact ⟨_, 0, rfl, Nat.zero_le _, rfl⟩
  rintro zm zs ⟨i, rfl, hL4_0, rfl⟩
  refine xA tb hM0 6 [5,11,66,67,68,69] [] rfl ?_
  refine spC 69 rfl ?_ ?_ <;> intro h7 <;> try simp only [dq] at h7
  refine xA tb hM0 8 [5,11,66,67,68,70] [] rfl ?_
  refine oP rfl (pure_ix rfl Tryz.underlying29 sz4 rfl rfl (by omega) (fun _ => rfl)) ?_
  refine xA tb hM0 10 [5,11,12,66,67,68,73] [] rfl ?_
  refine spC 73 rfl ?_ ?_ <;> intro h8 <;> try simp only [dq] at h8
  refine xA tb hM0 5 [5,66,67,68,74,75,76] [] rfl ?_
  refine oP rfl (pure_ix rfl Tryz.underlying79 sz45 rfl rfl (by omega) (fun _ => rfl)) ?_
  refine xA tb hM0 1 [5,66,67,68,74,78] [] rfl ?_
  refine oP rfl (pure_add rfl rfl rfl) ?_
  refine xA tb hM0 5 [5,11,66,67,68] [] rfl ?_
  refine oP rfl (pure_addi rfl rfl rfl (by omega)) ?_
  refine xA tb hM0 2 [5,11,66,67,68] [] rfl ?_
  refine nx ?_
  refine ⟨_, ⟨i + 1, rfl, by omega, ?_⟩, by omega⟩
  rw [cSum_t (d := d) (i := i) (v := cVec d n.toNat) (by assumption)]; rfl
  refine xA tb hM0 5 [5,11,66,67,68] [] rfl ?_
  refine oP rfl (pure_addi rfl rfl rfl (by omega)) ?_
  refine xA tb hM0 2 [5,11,66,67,68] [] rfl ?_
  refine nx ?_
  refine ⟨_, ⟨i + 1, rfl, by omega, ?_⟩, by omega⟩
  rw [cSum_f (d := d) (i := i) (v := cVec d n.toNat) (by assumption)]; rfl
  refine xA tb hM0 7 [11] [] rfl ?_
  obtain rfl : i = d.fin.length := by omega
  refine xA tb hM0 6 [] [] rfl ?_
  refine end_ret rfl ?_; rotate_left
  all_goals
    first
      | (rw [countZ_v (d := d) (by assumption)]; first | done | rfl)
      | (rw [countZ_f (d := d) (n := n) (fun q => by omega)]; first | done | rfl)
      | (rw [countZ_t (d := d) (n := n) (by assumption) (by omega) (by omega), countP, ← hfn]; first | done | rfl)
theorem fn22 : Fn1 Tryz.prog 22 Tryz.f22.ntmps 4 (Tryz.f22.body.getD .skip) := ⟨Tryz.f22, Tryz.func22, rfl, rfl, rfl, by kernel_rfl⟩
set_option maxRecDepth 100000 in
set_option maxHeartbeats 8000000 in
theorem rcount_call {d : Dfa} {n : Int} : CallF Tryz.prog 22 [dfa d, int n] (.p (u64I (countZ d n))) := by
  refine callF_of_code fn22 (Nat.le_of_ble_eq_true rfl) fun w0 M0 hM0 => ?_
  refine xC tb hM0 2 [0,1] [] rfl ?_
  refine oP rfl (pure_box rfl rfl rfl hM0) ?_
  refine xA tb hM0 7 [1,2,12] [] rfl ?_
  refine oP rfl (pure_call rfl rfl rfl (rvalidD_call) hM0) ?_
  refine xA tb hM0 2 [1,2,15] [] rfl ?_
  refine spO 15 rfl ?_ ?_ <;> intro h1' <;> try simp only [dq] at h1'
  refine xA tb hM0 17 [] [] rfl ?_
  refine end_ret rfl ?_; rotate_left
  refine xA tb hM0 4 [1,2,19] [] rfl ?_
  refine spO 19 rfl ?_ ?_ <;> intro h2' <;> try simp only [dq] at h2'
  refine xA tb hM0 13 [] [] rfl ?_
  refine end_ret rfl ?_; rotate_left
  refine xA tb hM0 5 [1,2,22] [] rfl ?_
  refine spC 22 rfl ?_ ?_ <;> intro h3 <;> try simp only [dq] at h3
  refine xA tb hM0 8 [] [] rfl ?_
  refine end_ret rfl ?_; rotate_left
  have hd := valid_ok (d := d) (by assumption)
  have hn : d.n = d.next.length := rfl
  have hb := hd.1
  have hkk := kk hd
  have hfn : d.fin.length = d.n := hb.2.2
  refine xA tb hM0 7 [1,2,24] [] rfl ?_
  refine oP rfl (pure_lenm rfl Tryz.underlying28 rfl) ?_
  refine oS rfl (step_make rfl rfl rfl rfl Tryz.underlying79 el45 ze45 rfl rfl rfl (by omega) (by omega) (by omega) hM0) rfl ?_
  refine xA tb hM0 6 [1,2,5,27] [26] rfl ?_
  refine oP rfl (pure_index_own rfl Tryz.underlying79 sz45 rfl rfl rfl (by rw [List.length_replicate]; omega)) ?_
  refine oS rfl (step_store_pel rfl rfl rfl sz45 rfl rfl (rep_get (by omega)) rfl rfl (.inl rfl) rfl (Nat.le_of_ble_eq_true rfl) hM0) rfl ?_
  refine xA tb hM0 4 [1,2,5] [26] rfl ?_
  refine code_frz 94 [(1, _), (2, _), (5, _)] [] hM0 rfl ⟨.inl rfl, .inl rfl, .inr ⟨_, _, rfl, rfl, rfl⟩, trivial⟩ trivial ?_
  refine xK tb hM0 5 [1,2,5,6] [] rfl ?_
  refine lp (fun zm zs => ∃ t : Nat, zm = n.toNat - t ∧ ((t : Int) ≤ n) ∧ zs = ⟨94, [(1, .v .mx (int n)), (2, .v .mx (dpc d)), (5, .v .pl (.sl (((cVec d t)).map u64I))), (6, .v .pl (int t))], []⟩) ?_ ?_
  refine ⟨_, 0, rfl, by omega, ?_⟩
  rw [← cVec_0, ← rep_mapU]; rfl
  rintro zm zs ⟨t, rfl, hL1_0, rfl⟩
  have hcv := cVec_len (d := d) t
  refine xA tb hM0 8 [1,2,5,6,31] [] rfl ?_
  refine spC 31 rfl ?_ ?_ <;> intro h4 <;> try simp only [dq] at h4
  refine xA tb hM0 8 [1,2,5,6,34] [] rfl ?_
  refine oP rfl (pure_lenm rfl Tryz.underlying79 rfl) ?_
  refine oS rfl (step_make rfl rfl rfl rfl Tryz.underlying79 el45 ze45 rfl rfl rfl (by omega) (by omega) (by omega) hM0) rfl ?_
  refine xA tb hM0 10 [1,2,5,6,7,8] [36] rfl ?_
  refine lp (fun zm zs => ∃ i : Nat, zm = d.next.length - i ∧ (i ≤ d.next.length) ∧ zs = ⟨94, [(1, .v .mx (int n)), (2, .v .mx (dpc d)), (5, .v .pl (.sl (((cVec d t)).map u64I))), (6, .v .pl (int t)), (7, .own 36), (8, .v .pl (int i))], [(36, .arr 45 ((cStepN d (cVec d t) i).map u64I))]⟩) ?_ ?_
  refine ⟨_, 0, rfl, Nat.zero_le _, ?_⟩
  rw [cStepN, ← rep_mapU, ← hcv]; rfl
  rintro zm zs ⟨i, rfl, hL2_0, rfl⟩
  have hcs := cStepN_len (d := d) (cVec d t) i
  refine xA tb hM0 5 [1,2,5,6,7,8,37,38] [36] rfl ?_
  refine oP rfl (pure_lenm rfl Tryz.underlying79 rfl) ?_
  refine xA tb hM0 3 [1,2,5,6,7,8,40] [36] rfl ?_
  refine spC 40 rfl ?_ ?_ <;> intro h5 <;> try simp only [dq] at h5
  refine xA tb hM0 11 [1,2,5,6,7,8,9] [36] rfl ?_
  have hi : i < d.next.length := by omega
  have hrow := (hd.row hi).1
  refine lp (fun zm zs => ∃ s : Nat, zm = d.k - s ∧ (s ≤ d.k) ∧ zs = ⟨94, [(1, .v .mx (int n)), (2, .v .mx (dpc d)), (5, .v .pl (.sl (((cVec d t)).map u64I))), (6, .v .pl (int t)), (7, .own 36), (8, .v .pl (int i)), (9, .v .pl (int s))], [(36, .arr 45 ((cRow d ((cVec d t).getD i default) i (cStepN d (cVec d t) i) s).map u64I))]⟩) ?_ ?_
  exact ⟨_, 0, rfl, Nat.zero_le _, rfl⟩
  rintro zm zs ⟨s, rfl, hL3_0, rfl⟩
  have hcl3 := cRow_len (d := d) ((cVec d t).getD i default) i (cStepN d (cVec d t) i) s
  rw [hcs] at hcl3
  refine xA tb hM0 9 [1,2,5,6,7,8,9,46] [36] rfl ?_
  refine spC 46 rfl ?_ ?_ <;> intro h6 <;> try simp only [dq] at h6
  refine xA tb hM0 5 [1,2,5,6,7,8,9] [36] rfl ?_
  have hst := hd.cellN hi (k := s) (by omega)
  have hsl : d.stp i s < d.n := hd.stp hi (by omega)
  refine code_draw mixed (by kernel_rfl) _ rfl ?_
  refine dl_pure rfl rfl rfl (pure_move rfl rfl) ?_
  refine dl_pure rfl rfl rfl (pure_field rfl fd31_1 rfl) ?_
  refine dl_pure rfl rfl rfl (pure_load rfl ag28 rfl rfl) ?_
  refine dl_pure rfl rfl rfl (pure_move rfl rfl) ?_
  refine dl_pure rfl rfl rfl (pure_ix rfl Tryz.underlying28 sz22 rfl rfl (by omega) (fun _ => rfl)) ?_
  refine dl_pure rfl rfl rfl (pure_load rfl ag22 rfl rfl) ?_
  refine dl_pure rfl rfl rfl (pure_move rfl rfl) ?_
  refine dpk 94 [(1,_),(2,_),(5,_),(6,_),(7,_),(8,_),(9,_),(49,_),(54,_),(55,_)] [(36,_)] rfl rfl rfl ?_
  refine dl_pure rfl rfl rfl (pure_ix rfl Tryz.underlying22 sz3 rfl rfl (by omega) (fun _ => rfl)) ?_
  refine dl_pure rfl rfl rfl (pure_load rfl ag3 rfl rfl) ?_
  refine dl_pure rfl rfl rfl (pure_move rfl rfl) ?_
  refine dl_pure rfl rfl rfl (pure_field rfl fd31_1 rfl) ?_
  refine dl_pure rfl rfl rfl (pure_load rfl ag28 rfl rfl) ?_
  refine dl_pure rfl rfl rfl (pure_move rfl rfl) ?_
  refine dl_pure rfl rfl rfl (pure_ix rfl Tryz.underlying28 sz22 rfl rfl (by omega) (fun _ => rfl)) ?_
  refine dpk 94 [(1,_),(2,_),(5,_),(6,_),(7,_),(8,_),(9,_),(49,_),(57,_),(58,_),(62,_)] [(36,_)] rfl rfl rfl ?_
  refine dl_pure rfl rfl rfl (pure_load rfl ag22 rfl rfl) ?_
  refine dl_pure rfl rfl rfl (pure_move rfl rfl) ?_
  refine dl_pure rfl rfl rfl (pure_ix rfl Tryz.underlying22 sz3 rfl rfl (by omega) (fun _ => rfl)) ?_
  refine dl_pure rfl rfl rfl (pure_load rfl ag3 rfl rfl) ?_
  refine dl_pure rfl rfl rfl (pure_index_own rfl Tryz.underlying79 sz45 rfl rfl rfl (by (try simp only [Int.toNat_natCast]); rw [hst]; exact ⟨Int.natCast_nonneg _, by rw [List.length_map, hcl3]; exact Int.ofNat_lt.2 hsl⟩)) ?_
  refine dl_pure rfl rfl rfl (pure_load_pel rfl ag45 rfl rfl (mget (by (try simp only [Int.toNat_natCast]); rw [hst, Int.toNat_natCast, hcl3]; exact hsl)) rfl) ?_
  refine dl_pure rfl rfl rfl (pure_move rfl rfl) ?_
  refine dpk 94 [(1,_),(2,_),(5,_),(6,_),(7,_),(8,_),(9,_),(49,_),(57,_),(68,_),(69,_)] [(36,_)] rfl rfl rfl ?_
  refine dl_pure rfl rfl rfl (pure_move rfl rfl) ?_
  refine dl_pure rfl rfl rfl (pure_ix rfl Tryz.underlying79 sz45 rfl rfl (by omega) (fun _ => rfl)) ?_
  refine dl_pure rfl rfl rfl (pure_load rfl ag45 rfl rfl) ?_
  refine dl_pure rfl rfl rfl (pure_add rfl rfl rfl) ?_
  refine dl_pure rfl rfl rfl (pure_index_own rfl Tryz.underlying79 sz45 rfl rfl rfl (by (try simp only [Int.toNat_natCast]); rw [hst]; exact ⟨Int.natCast_nonneg _, by rw [List.length_map, hcl3]; exact Int.ofNat_lt.2 hsl⟩)) ?_
  refine dl_tails (by kernel_rfl) ?_
  refine tl_step rfl (step_store_pel rfl rfl rfl sz45 rfl rfl (mget (by (try simp only [Int.toNat_natCast]); rw [hst, Int.toNat_natCast, hcl3]; exact hsl)) rfl rfl (.inl rfl) rfl (Nat.le_of_ble_eq_true rfl) hM0) ?_
  refine tl_nil ?_
  refine xD tb hM0 4 [1,2,5,6,7,8,47] [36] rfl ?_
  refine oP rfl (pure_addi rfl rfl rfl (by omega)) ?_
  refine xA tb hM0 2 [1,2,5,6,7,8,9] [36] rfl ?_
  refine nx ?_
  refine ⟨_, ⟨s + 1, rfl, by omega, ?_⟩, by omega⟩
  rw [cRow, addAt_map]; rfl
  refine xA tb hM0 9 [1,2,5,6,7,41] [36] rfl ?_
  refine oP rfl (pure_addi rfl rfl rfl (by omega)) ?_
  refine xA tb hM0 2 [1,2,5,6,7,8] [36] rfl ?_
  refine nx ?_
  obtain rfl : s = d.k := by omega
  exact ⟨_, ⟨i + 1, rfl, by omega, rfl⟩, by omega⟩
  refine xA tb hM0 6 [1,2,6,7] [36] rfl ?_
  refine code_frz 94 [(1, _), (2, _), (6, _), (7, _)] [] hM0 rfl ⟨.inl rfl, .inl rfl, .inl rfl, .inr ⟨_, _, rfl, rfl, rfl⟩, trivial⟩ trivial ?_
  obtain rfl : i = d.n := by omega
  refine xK tb hM0 8 [1,2,5,32] [] rfl ?_
  refine oP rfl (pure_addi rfl rfl rfl (by omega)) ?_
  refine xA tb hM0 2 [1,2,5,6] [] rfl ?_
  refine nx ?_
  exact ⟨_, ⟨t + 1, rfl, by omega, rfl⟩, by omega⟩
  refine xA tb hM0 7 [2,5] [] rfl ?_
  obtain rfl : t = n.toNat := by omega
  refine xA tb hM0 11 [2,5,10,11] [] rfl ?_
  refine lp (fun zm zs => ∃ i : Nat, zm = d.fin.length - i ∧ (i ≤ d.fin.length) ∧ zs = ⟨94, [(2, .v .mx (dpc d)), (5, .v .pl (.sl ((cVec d n.toNat).map u64I))), (10, .v .pl (u64I (cSum d (cVec d n.toNat) i))), (11, .v .pl (int i))], []⟩) ?_ ?_
  exact ⟨_, 0, rfl, Nat.zero_le _, rfl⟩
  rintro zm zs ⟨i, rfl, hL4_0, rfl⟩
  refine xA tb hM0 5 [2,5,10,11,76,77] [] rfl ?_
  refine oP rfl (pure_lenm rfl Tryz.underlying79 rfl) ?_
  refine xA tb hM0 3 [2,5,10,11,79] [] rfl ?_
  refine spC 79 rfl ?_ ?_ <;> intro h7 <;> try simp only [dq] at h7
  refine xA tb hM0 10 [2,5,10,11,83,84] [] rfl ?_
  refine oP rfl (pure_ix rfl Tryz.underlying29 sz4 rfl rfl (by omega) (fun _ => rfl)) ?_
  refine xA tb hM0 3 [2,5,10,11,86] [] rfl ?_
  refine spC 86 rfl ?_ ?_ <;> intro h8 <;> try simp only [dq] at h8
  refine xA tb hM0 5 [2,5,11,87,88,89] [] rfl ?_
  refine oP rfl (pure_ix rfl Tryz.underlying79 sz45 rfl rfl (by omega) (fun _ => rfl)) ?_
  refine xA tb hM0 1 [2,5,11,87,91] [] rfl ?_
  refine oP rfl (pure_add rfl rfl rfl) ?_
  refine xA tb hM0 6 [2,5,10,80] [] rfl ?_
  refine oP rfl (pure_addi rfl rfl rfl (by omega)) ?_
  refine xA tb hM0 2 [2,5,10,11] [] rfl ?_
  refine nx ?_
  refine ⟨_, ⟨i + 1, rfl, by omega, ?_⟩, by omega⟩
  rw [cSum_t (d := d) (i := i) (v := cVec d n.toNat) (by assumption)]; rfl
  refine xA tb hM0 6 [2,5,10,80] [] rfl ?_
  refine oP rfl (pure_addi rfl rfl rfl (by omega)) ?_
  refine xA tb hM0 2 [2,5,10,11] [] rfl ?_
  refine nx ?_
  refine ⟨_, ⟨i + 1, rfl, by omega, ?_⟩, by omega⟩
  rw [cSum_f (d := d) (i := i) (v := cVec d n.toNat) (by assumption)]; rfl
  refine xA tb hM0 7 [10] [] rfl ?_
  obtain rfl : i = d.fin.length := by omega
  refine xA tb hM0 6 [] [] rfl ?_
  refine end_ret rfl ?_; rotate_left
  all_goals
    first
      | (rw [countZ_v (d := d) (by assumption)]; first | done | rfl)
      | (rw [countZ_f (d := d) (n := n) (fun q => by omega)]; first | done | rfl)
      | (rw [countZ_t (d := d) (n := n) (by assumption) (by omega) (by omega), countP, ← hfn]; first | done | rfl)
end Go.Proofs.YtjimlkpfmbachaaGreat

