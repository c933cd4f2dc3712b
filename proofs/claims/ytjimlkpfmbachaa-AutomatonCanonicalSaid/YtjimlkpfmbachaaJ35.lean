/-
  Contract: the reference's least automaton.
-/
import Derived.Test.YtjimlkpfmbachaaJ28
import Derived.Test.YtjimlkpfmbachaaJ20
import Derived.Test.YtjimlkpfmbachaaJ21
import Derived.Test.YtjimlkpfmbachaaJ26
import Derived.Test.YtjimlkpfmbachaaJ29
import Derived.Test.YtjimlkpfmbachaaJ18
set_option linter.unusedVariables false
set_option linter.unusedSectionVars false
set_option linter.unusedSimpArgs false
namespace Go.Proofs.Ytjimlkpfmbachaa
open Go.Am Go.Wc Go.Wb Go.Wd
set_option linter.unusedVariables false
set_option linter.unusedSimpArgs false
theorem revsI : RevI Try.prog 48 :=
  ⟨⟨Try.f48, Try.func48, by kernel_rfl, by kernel_rfl⟩,
   fun p cap w => AnyG.slices_Reverse_int_empty Try.revI p cap w,
   fun blk off cap zs w hH hblk hsz => (AnyG.slices_Reverse_int Try.revI blk off cap zs w hH (by omega)).mono fun e w' ⟨h1, n, h2⟩ => ⟨h1, n, #[], by rw [h2, grow_none]⟩⟩
theorem fn45 : Fn2 Try.prog 45 Try.f45.ntmps 8 9 (Try.f45.body.getD .skip) := ⟨Try.f45, Try.func45, rfl, rfl, rfl, by kernel_rfl⟩
set_option maxRecDepth 100000 in
set_option maxHeartbeats 8000000 in
theorem searchI_call {next : Nat → Nat → Nat} {good : Nat → Bool} {size start N : Nat} {sz : Int} {U : List Nat} {g h : FuncId} {cg ch : List AV} (hsz : 1 ≤ size ∧ size ≤ 64) (hU : ∀ x ∈ U, ∀ s, s < size → next x s ∈ U) (h0 : start ∈ U) (hN : U.length ≤ N) (hB : U.length ≤ 4194304) (hz : (size : Int) = sz)
    (hg : ∀ x ∈ U, ∀ s, s < size → CallF Try.prog g ([natI x, natI s] ++ cg) (.p (natI (next x s)))) (hh : ∀ x ∈ U, CallF Try.prog h ([natI x] ++ ch) (.p (bool (good x)))) :
    CallF Try.prog 45 [natI start, int sz, .clo g cg, .clo h ch] (.p (.tup [resW (seekW next size good (N + 1) 0 [(start, [])]), bool (seekW next size good (N + 1) 0 [(start, [])]).isSome])) := by
  subst hz
  refine callF_of_code2 fn45 (Nat.le_of_ble_eq_true rfl) fun w0 M0 hM0 => ?_
  refine xC tb hM0 8 [0,1,2,3] [] rfl ?_
  refine oS rfl (step_map rfl rfl rfl rfl rfl Try.underlying89 (fun q hq => by cases hq <;> exact ⟨_, _, rfl⟩) hM0) rfl ?_
  refine xA tb hM0 1 [0,1,2,3,17,18] [17] rfl ?_
  refine oS rfl (step_insert rfl (step_put rfl rfl rfl Try.underlying89 Try.underlying3 rfl rfl rfl rfl rfl (fun q hq => by cases hq) hM0)) rfl ?_
  refine xA tb hM0 8 [1,2,3,10,21] [17] rfl ?_
  refine oS rfl (step_lit rfl rfl rfl rfl Try.underlying92 el91 rfl rfl rfl rfl hM0) rfl ?_
  refine xA tb hM0 10 [1,2,3,10,11,12] [17,22] rfl ?_
  refine lp (fun zm zs => ∃ (T : List (Stp Nat)) (P : List (Pth Nat)) (i : Nat), zm = N + 1 - i ∧ (Sr next size start U good N T P i) ∧ zs = ⟨85, [(1, .v .mx (natI size)), (2, .v .mx (.clo g cg)), (3, .v .mx (.clo h ch)), (10, .omap 17), (11, .own 22), (12, .v .pl (int i))], [(17, .mp (ksW kvN P) (vsW P.length)), (22, .arr 91 (T.map stpN))]⟩) ?_ ?_
  refine ⟨_, [(start, -1, 0)], [(start, [])], 0, rfl, sr_start h0, ?_⟩
  rfl
  rintro zm zs ⟨T, P, i, rfl, hL1_0, rfl⟩
  have hSr := hL1_0
  have hle := hSr.le
  have htl := hSr.tr.len
  have hpl := sk_len hSr.sk
  refine xA tb hM0 5 [1,2,3,10,11,12,23,24] [17,22] rfl ?_
  refine oP rfl (pure_lenm rfl Try.underlying92 rfl) ?_
  refine xA tb hM0 3 [1,2,3,10,11,12,26] [17,22] rfl ?_
  refine spC 26 rfl ?_ ?_ <;> intro h1 <;> try simp only [dq] at h1
  refine xA tb hM0 7 [1,2,3,10,11,12] [17,22] rfl ?_
  have hi : i < P.length := by omega
  have hxU : (P.getD i default).1 ∈ U := hSr.sk.sub _ (el_mem hi)
  refine xA tb hM0 4 [1,2,3,10,11,12,29,30,31] [17,22] rfl ?_
  refine oP rfl (pure_index_own rfl Try.underlying92 sz91 rfl rfl rfl (by rw [List.length_map]; omega)) ?_
  refine oP rfl (pure_field_pel rfl fd91_0 rfl rfl) ?_
  refine xA tb hM0 0 [1,2,3,10,11,12,29,33] [17,22] rfl ?_
  refine oP rfl (pure_load_pel rfl ag3 rfl rfl (mget (by omega)) rfl) ?_
  refine oP rfl (pure_call rfl rfl rfl (by have e : (T.getD (i : Int).toNat default).1 = (P.getD i default).1 := hSr.tr.key i hi; rw [e]; exact hh _ hxU) hM0) ?_
  refine xA tb hM0 2 [1,2,3,10,11,12,35] [17,22] rfl ?_
  refine spC 35 rfl ?_ ?_ <;> intro h2 <;> try simp only [dq] at h2
  have hgd : good (P.getD i default).1 = true := by assumption
  have hres := hSr.hit hN hi hgd
  refine xA tb hM0 3 [11,12] [22] rfl ?_
  refine oS rfl (step_nil rfl rfl rfl rfl rfl 3 hM0) rfl ?_
  refine xA tb hM0 10 [11,13,14] [13,22] rfl ?_
  refine lp (fun zm zs => ∃ (at_ : Nat) (ws : List Nat), zm = i + at_ ∧ (at_ ≤ i) ∧ (ws.length + at_ ≤ i) ∧ ((P.getD i default).2 = (P.getD at_ default).2 ++ ws.reverse) ∧ zs = ⟨85, [(11, .own 22), (13, .own 13), (14, .v .pl (int at_))], [(13, .arr 3 ((natL ws).map int)), (22, .arr 91 (T.map stpN))]⟩) ?_ ?_
  exact ⟨_, i, [], rfl, Nat.le_refl _, by simp, by simp, rfl⟩
  rintro zm zs ⟨at_, ws, rfl, hL2_0, hL2_1, hL2_2, rfl⟩
  refine xA tb hM0 5 [11,13,14,37,38] [13,22] rfl ?_
  refine oP rfl (pure_index_own rfl Try.underlying92 sz91 rfl rfl rfl (by rw [List.length_map]; omega)) ?_
  refine oP rfl (pure_field_pel rfl fd91_1 rfl rfl) ?_
  refine xA tb hM0 0 [11,13,14,40] [13,22] rfl ?_
  refine oP rfl (pure_load_pel rfl ag3 rfl rfl (mget (by omega)) rfl) ?_
  refine xA tb hM0 3 [11,13,14,42] [13,22] rfl ?_
  refine spC 42 rfl ?_ ?_ <;> intro h3 <;> try simp only [dq] at h3
  have hw := hSr.tr.way at_ (by omega)
  obtain ⟨f, t, hf1, hf2, hf3, hf4⟩ : ∃ f s : Nat, f < at_ ∧ (T.getD at_ default).2.1 = (f : Int) ∧ (T.getD at_ default).2.2 = (s : Int) ∧ (P.getD at_ default).2 = (P.getD f default).2 ++ [s] := hw.resolve_left (fun q => by omega)
  refine xA tb hM0 9 [11,14,48,49,50] [13,22] rfl ?_
  refine oP rfl (pure_index_own rfl Try.underlying92 sz91 rfl rfl rfl (by rw [List.length_map]; omega)) ?_
  refine oP rfl (pure_field_pel rfl fd91_2 rfl rfl) ?_
  refine xA tb hM0 0 [11,14,48,52] [13,22] rfl ?_
  refine oP rfl (pure_load_pel rfl ag3 rfl rfl (mget (by omega)) rfl) ?_
  refine oP rfl (pure_lit rfl Try.underlying22 el3 rfl rfl rfl rfl hM0) ?_
  refine xA tb hM0 0 [11,14,48,54] [13,22] rfl ?_
  refine oS rfl (step_append rfl rfl rfl rfl Try.underlying22 el3 rfl rfl hM0 (src_pl rfl (one_len (by rfl))) (by simp only [List.length_map, List.length_cons, List.length_nil]; omega) (by simp only [List.length_map, List.length_cons, List.length_nil]; omega)) rfl ?_
  refine xA tb hM0 7 [11,13,43,44] [13,22] rfl ?_
  refine oP rfl (pure_index_own rfl Try.underlying92 sz91 rfl rfl rfl (by rw [List.length_map]; omega)) ?_
  refine oP rfl (pure_field_pel rfl fd91_1 rfl rfl) ?_
  refine xA tb hM0 0 [11,13,46] [13,22] rfl ?_
  refine oP rfl (pure_load_pel rfl ag3 rfl rfl (mget (by omega)) rfl) ?_
  refine xA tb hM0 2 [11,13,14] [13,22] rfl ?_
  refine nx ?_
  refine ⟨_, ⟨f, ws ++ [t], rfl, by omega, by simp only [List.length_append, List.length_cons, List.length_nil]; omega, by rw [hL2_2, hf4]; simp, ?_⟩, by omega⟩
  rw [← hf2, natL_snoc, List.map_append, ← hf3]; rfl
  have hw2 : (P.getD at_ default).2 = [] := (hSr.tr.way at_ (by omega)).elim (fun q => q.2) (fun ⟨f, t, q1, q2, q3, q4⟩ => by omega)
  refine xA tb hM0 7 [13] [13] rfl ?_
  have hres2 : (P.getD i default).2 = ws.reverse := by rw [hL2_2, hw2]; rfl
  refine xA tb hM0 2 [13,56] [13] rfl ?_
  refine oS rfl (step_revI revsI rfl rfl rfl rfl rfl rfl sz3 (by rw [List.length_map]; omega) hM0) rfl ?_
  refine xA tb hM0 16 [] [] rfl ?_
  refine end2_ret rfl rfl ?_
  rw [hres]
  refine ⟨?_, rfl⟩
  show AV.sl (((natL ws).reverse).map int) = nats (P.getD i default).2
  rw [hres2, show (natL ws).reverse = natL ws.reverse from List.map_reverse.symm, natL_nats]
  have hgd : good (P.getD i default).1 = false := by assumption
  refine xA tb hM0 10 [1,2,3,10,11,12,59,60] [17,22] rfl ?_
  refine lp (fun zm zs => ∃ (T2 : List (Stp Nat)) (s : Nat), zm = size - s ∧ (s ≤ size) ∧ (Tr T2 (growW next (P.getD i default) P s)) ∧ zs = ⟨85, [(1, .v .mx (natI size)), (2, .v .mx (.clo g cg)), (3, .v .mx (.clo h ch)), (10, .omap 17), (11, .own 22), (12, .v .pl (int i)), (59, .v .mx (natI size)), (60, .v .pl (int s))], [(17, .mp (ksW kvN (growW next (P.getD i default) P s)) (vsW (growW next (P.getD i default) P s).length)), (22, .arr 91 (T2.map stpN))]⟩) ?_ ?_
  exact ⟨_, T, 0, rfl, Nat.zero_le _, hSr.tr, rfl⟩
  rintro zm zs ⟨T2, s, rfl, hL3_0, hL3_1, rfl⟩
  have hgr := hSr.grow hU hi hL3_0
  have hgl := hgr.2.length_le
  have hgu := hgr.1
  have htl2 := hL3_1.len
  have hPi : (growW next (P.getD i default) P s).getD i default = (P.getD i default) := pre_at hgr.2 hi
  have hT2 : (T2.getD i default).1 = (P.getD i default).1 := (hL3_1.key i (by omega)).trans (congrArg Prod.fst hPi)
  refine xA tb hM0 6 [1,2,3,10,11,12,59,60,61] [17,22] rfl ?_
  refine spC 61 rfl ?_ ?_ <;> intro h4 <;> try simp only [dq] at h4
  refine xA tb hM0 16 [1,2,3,10,11,12,15,59,60,63,64,65] [17,22] rfl ?_
  refine oP rfl (pure_index_own rfl Try.underlying92 sz91 rfl rfl rfl (by rw [List.length_map]; omega)) ?_
  refine oP rfl (pure_field_pel rfl fd91_0 rfl rfl) ?_
  refine xA tb hM0 0 [1,2,3,10,11,12,15,59,60,63,67] [17,22] rfl ?_
  refine oP rfl (pure_load_pel rfl ag3 rfl rfl (mget (by omega)) rfl) ?_
  refine xA tb hM0 1 [1,2,3,10,11,12,15,59,60,63,68,69] [17,22] rfl ?_
  refine oP rfl (pure_call rfl rfl rfl (by have e : (T2.getD (i : Int).toNat default).1 = (P.getD i default).1 := hT2; rw [e]; exact hg _ hxU s (by omega)) hM0) ?_
  refine xA tb hM0 7 [1,2,3,10,11,12,15,16,59,60,71,72] [17,22] rfl ?_
  refine oP rfl (pure_scl (pure_mlook rfl Try.underlying89 Try.underlying3 zv4 rfl rfl rfl rfl (fun q hq => by obtain ⟨_, _, rfl⟩ := List.mem_map.1 hq; rfl) (look_w (kv := kvN) kvN_inj _ _))) ?_
  refine xA tb hM0 3 [1,2,3,10,11,12,15,16,59,60,74] [17,22] rfl ?_
  refine spC 74 rfl ?_ ?_ <;> intro h5 <;> try simp only [dq] at h5
  refine xA tb hM0 5 [1,2,3,10,11,12,15,16,59,60,75,76] [17,22] rfl ?_
  refine oS rfl (step_put rfl rfl rfl Try.underlying89 Try.underlying3 rfl rfl rfl rfl rfl (fun q hq => by obtain ⟨_, _, rfl⟩ := List.mem_map.1 hq; rfl) hM0) rfl ?_
  refine xA tb hM0 8 [1,2,3,10,12,59,60,77,81] [17,22] rfl ?_
  refine oP rfl (pure_lit rfl Try.underlying92 el91 rfl rfl rfl rfl hM0) ?_
  refine oS rfl (step_append rfl rfl rfl rfl Try.underlying92 el91 rfl rfl hM0 (src_pl rfl (one_len (by rfl))) (by rw [List.length_map]; simp only [List.length_cons, List.length_nil]; omega) (by rw [List.length_map]; simp only [List.length_cons, List.length_nil]; omega)) rfl ?_
  refine xA tb hM0 5 [1,2,3,10,11,12,59,60] [17,22] rfl ?_
  refine oP rfl (pure_addi rfl rfl rfl (by omega)) ?_
  refine xA tb hM0 2 [1,2,3,10,11,12,59,60] [17,22] rfl ?_
  refine nx ?_
  have hnew : next (P.getD i default).1 s ∉ keysW (growW next (P.getD i default) P s) := by assumption
  have hsn := hL3_1.snoc (k := next (P.getD i default).1 s) (i := i) (s := s) (by omega)
  rw [hPi] at hsn
  refine ⟨_, ⟨T2 ++ [(next (P.getD i default).1 s, (i : Int), (s : Int))], s + 1, rfl, by omega, by rw [growW_new hnew]; exact hsn, ?_⟩, by omega⟩
  rw [growW_new hnew, ← put_kw (kv := kvN) kvN_inj hnew, ← put_vw (kv := kvN) kvN_inj hnew, List.map_append]; rfl
  refine xA tb hM0 5 [1,2,3,10,11,12,59,60] [17,22] rfl ?_
  refine oP rfl (pure_addi rfl rfl rfl (by omega)) ?_
  refine xA tb hM0 2 [1,2,3,10,11,12,59,60] [17,22] rfl ?_
  refine nx ?_
  have hold : next (P.getD i default).1 s ∈ keysW (growW next (P.getD i default) P s) := by assumption
  exact ⟨_, ⟨T2, s + 1, rfl, by omega, by rw [growW_old hold]; exact hL3_1, by rw [growW_old hold]; rfl⟩, by omega⟩
  refine xA tb hM0 7 [1,2,3,10,11,12] [17,22] rfl ?_
  obtain rfl : size = s := by omega
  refine xA tb hM0 2 [1,2,3,10,11,27] [17,22] rfl ?_
  refine oP rfl (pure_addi rfl rfl rfl (by omega)) ?_
  refine xA tb hM0 2 [1,2,3,10,11,12] [17,22] rfl ?_
  refine nx ?_
  exact ⟨_, ⟨T2, (growW next (P.getD i default) P size), i + 1, rfl, hSr.step hU hN hi hgd hL3_1, rfl⟩, by omega⟩
  refine xA tb hM0 13 [] [] rfl ?_
  refine end2_ret rfl rfl ?_
  rw [hSr.miss (by omega)]
  exact ⟨rfl, rfl⟩
end Go.Proofs.Ytjimlkpfmbachaa

namespace Go.Proofs.Ytjimlkpfmbachaa
open Go.Am Go.Wc Go.Wb Go.Wd
set_option linter.unusedVariables false
set_option linter.unusedSimpArgs false
theorem fn9 : FnC Try.prog 9 Try.f9.ntmps 2 26 3 (Try.f9.body.getD .skip) := ⟨Try.f9, Try.func9, rfl, rfl, rfl, by kernel_rfl, ag26, sz26⟩
set_option maxRecDepth 100000 in
set_option maxHeartbeats 8000000 in
theorem rmin_call {d : Dfa} : CallF Try.prog 9 [dfa d] (.p (dfa (minZ d))) := by
  refine callF_of_codeC fn9 (Nat.le_of_ble_eq_true rfl) fun w0 M0 hM0 => ?_
  refine xC tb hM0 2 [0] [] rfl ?_
  refine oP rfl (pure_box rfl rfl rfl hM0) ?_
  refine xA tb hM0 7 [1,2,12] [2] rfl ?_
  refine oP rfl (pure_call rfl rfl rfl (rvalidD_call) hM0) ?_
  refine xA tb hM0 3 [1,2,14] [2] rfl ?_
  refine spC 14 rfl ?_ ?_ <;> intro h1 <;> try simp only [dq] at h1
  refine xA tb hM0 3 [2] [2] rfl ?_
  refine oP rfl (pure_norm (pure_build rfl pl26 ze26 rfl rfl rfl) rfl) ?_
  refine xA tb hM0 5 [] [] rfl ?_
  refine endC_ret rfl ?_; rotate_left
  have hd := valid_ok (d := d) (by assumption)
  have hn : d.n = d.next.length := rfl
  have hb := hd.1
  have hkk := kk hd
  have hcl : (clsF d).length = d.n := (clsF_ok hd).1
  refine xA tb hM0 6 [1,2,16] [2] rfl ?_
  refine oP rfl (pure_call rfl rfl rfl (rclasses_call hd) hM0) ?_
  refine xA tb hM0 7 [1,2,3,19] [2] rfl ?_
  refine oP rfl (pure_lenm rfl Try.underlying23 rfl) ?_
  refine oS rfl (step_make rfl rfl rfl rfl Try.underlying22 el3 ze3 rfl rfl rfl (by omega) (by omega) (by omega) hM0) rfl ?_
  refine xA tb hM0 10 [1,2,3,4,5] [2,21] rfl ?_
  refine lp (fun zm zs => ∃ i : Nat, zm = d.n - i ∧ (i ≤ d.n) ∧ zs = ⟨113, [(1, .v .mx (dpc d)), (2, .pbox 2 0), (3, .v .pl (nats (clsF d))), (4, .own 21), (5, .v .pl (int i))], [(2, .box 26 [.v .pl (.sc (.int .i64 0)), .v .pl (.sc (.slice none 0 0)), .v .pl (.sc (.slice none 0 0))]), (21, .arr 3 ((mo d.n i).map int))]⟩) ?_ ?_
  refine ⟨_, 0, rfl, Nat.zero_le _, ?_⟩
  rw [mo_zero, ← rep_mapI]; rfl
  rintro zm zs ⟨i, rfl, hL1_0, rfl⟩
  have hml := mo_len (n := d.n) (i := i) (by omega)
  refine xA tb hM0 5 [1,2,3,4,5,22,23] [2,21] rfl ?_
  refine oP rfl (pure_lenm rfl Try.underlying22 rfl) ?_
  refine xA tb hM0 3 [1,2,3,4,5,25] [2,21] rfl ?_
  refine spC 25 rfl ?_ ?_ <;> intro h2 <;> try simp only [dq] at h2
  refine xA tb hM0 8 [1,2,3,4,5,28,29] [2,21] rfl ?_
  refine oP rfl (pure_index_own rfl Try.underlying22 sz3 rfl rfl rfl (by rw [List.length_map]; omega)) ?_
  refine oS rfl (step_store_pel rfl rfl rfl sz3 rfl rfl (mget (by omega)) rfl rfl (.inl rfl) rfl (Nat.le_of_ble_eq_true rfl) hM0) rfl ?_
  refine xA tb hM0 5 [1,2,3,4,26] [2,21] rfl ?_
  refine oP rfl (pure_addi rfl rfl rfl (by omega)) ?_
  refine xA tb hM0 2 [1,2,3,4,5] [2,21] rfl ?_
  refine nx ?_
  refine ⟨_, ⟨i + 1, rfl, by omega, ?_⟩, by omega⟩
  rw [← mo_set (by omega)]; rfl
  refine xA tb hM0 7 [1,2,3,4] [2,21] rfl ?_
  obtain rfl : i = d.n := by omega
  rw [mo_all]
  have hst : mstart d < d.n := cls_lt hd _ (cl_mem hd (q := 0) (by omega))
  refine xA tb hM0 3 [1,2,3,4,31,32] [2,21] rfl ?_
  refine oP rfl (pure_ix rfl Try.underlying22 sz3 rfl rfl (by omega) (fun _ => rfl)) ?_
  refine xA tb hM0 1 [1,2,3,4,31,34] [2,21] rfl ?_
  refine oP rfl (pure_index_own rfl Try.underlying22 sz3 rfl rfl rfl (by exact ⟨Int.natCast_nonneg _, by rw [List.length_map, nm_len]; exact Int.ofNat_lt.2 hst⟩)) ?_
  refine oS rfl (step_store_pel rfl rfl rfl sz3 rfl rfl (mget (by rw [nm_len]; exact hst)) rfl rfl (.inl rfl) rfl (Nat.le_of_ble_eq_true rfl) hM0) rfl ?_
  refine xA tb hM0 4 [1,2,3,4] [2,21] rfl ?_
  refine oS rfl (step_lit rfl rfl rfl rfl Try.underlying22 el3 rfl rfl rfl rfl hM0) rfl ?_
  refine xA tb hM0 14 [1,2,3,4,6,7] [2,7,21,36] rfl ?_
  refine code_nilown 7 1 41 22 26 hM0 rfl rfl rfl rfl ?_
  refine code_nilown 7 2 42 4 26 hM0 rfl rfl rfl rfl ?_
  refine xK tb hM0 5 [1,2,3,4,6,7,8] [2,7,21,36,41,42] rfl ?_
  refine lp (fun zm zs => ∃ (l st : List Nat) (i : Nat), zm = d.n + 1 - i ∧ (Ex (mnext d) d.k (clsF d) (mstart d) d.n l i) ∧ (Rp d l st) ∧ zs = ⟨113, [(1, .v .mx (dpc d)), (2, .pbox 2 0), (3, .v .pl (nats (clsF d))), (4, .own 21), (6, .own 36), (7, .pbox 7 0), (8, .v .pl (int i))], [(2, .box 26 [.v .pl (.sc (.int .i64 0)), .v .pl (.sc (.slice none 0 0)), .v .pl (.sc (.slice none 0 0))]), (7, .box 26 [.v .pl (int d.size), .own 41, .own 42]), (21, .arr 3 ((nm d.n l).map int)), (36, .arr 3 (st.map natI)), (41, .arr 22 ((rowsX (mnext d) d.k l (l.take i)).map ints)), (42, .arr 4 ((finX (mfin d) (l.take i)).map bool))]⟩) ?_ ?_
  refine ⟨_, [mstart d], [0], 0, rfl, ex_start (cl_mem hd (q := 0) (by omega)), ⟨rfl, fun q hq => by rw [List.mem_singleton.1 hq]; omega⟩, ?_⟩
  rw [show nm d.n [mstart d] = nm d.n ([] ++ [mstart d]) from rfl, ← nm_snocI (l := []) (c := mstart d) hst (by simp)]; rfl
  rintro zm zs ⟨l, st, i, rfl, hL2_0, hL2_1, rfl⟩
  have hle := hL2_0.le
  have hrl := hL2_1.len
  refine xA tb hM0 5 [1,2,3,4,6,7,8,40,41] [2,7,21,36,41,42] rfl ?_
  refine oP rfl (pure_lenm rfl Try.underlying22 rfl) ?_
  refine xA tb hM0 3 [1,2,3,4,6,7,8,43] [2,7,21,36,41,42] rfl ?_
  refine spC 43 rfl ?_ ?_ <;> intro h3 <;> try simp only [dq] at h3
  refine xA tb hM0 7 [1,2,3,4,6,7,8] [2,7,21,36,41,42] rfl ?_
  refine oS rfl (step_nil rfl rfl rfl rfl rfl 3 hM0) rfl ?_
  refine xA tb hM0 9 [1,2,3,4,6,7,8,9,10] [2,7,9,21,36,41,42] rfl ?_
  have hi : i < l.length := by omega
  have hxU := hL2_0.met.sub _ (el_mem hi)
  have hq : st.getD i default < d.next.length := hL2_1.lt _ (el_mem (by omega))
  have hcx : (clsF d).getD (st.getD i default) 0 = (l.getD i default) := hL2_1.at (by omega)
  refine lp (fun zm zs => ∃ (st2 : List Nat) (s : Nat), zm = d.k - s ∧ (s ≤ d.k) ∧ (Rp d (grow (mnext d) (l.getD i default) l s) st2) ∧ (st <+: st2) ∧ zs = ⟨113, [(1, .v .mx (dpc d)), (2, .pbox 2 0), (3, .v .pl (nats (clsF d))), (4, .own 21), (6, .own 36), (7, .pbox 7 0), (8, .v .pl (int i)), (9, .own 9), (10, .v .pl (int s))], [(2, .box 26 [.v .pl (.sc (.int .i64 0)), .v .pl (.sc (.slice none 0 0)), .v .pl (.sc (.slice none 0 0))]), (7, .box 26 [.v .pl (int d.size), .own 41, .own 42]), (9, .arr 3 ((rI (mnext d) (l.getD i default) l s).map int)), (21, .arr 3 ((nm d.n (grow (mnext d) (l.getD i default) l s)).map int)), (36, .arr 3 (st2.map natI)), (41, .arr 22 ((rowsX (mnext d) d.k l (l.take i)).map ints)), (42, .arr 4 ((finX (mfin d) (l.take i)).map bool))]⟩) ?_ ?_
  exact ⟨_, st, 0, rfl, Nat.zero_le _, hL2_1, List.prefix_refl _, rfl⟩
  rintro zm zs ⟨st2, s, rfl, hL3_0, hL3_1, hL3_2, rfl⟩
  have hgl := grow_le hL2_0.met (mnext_mem hd) hxU hL3_0
  have hrl2 := hL3_1.len
  have hat : st2.getD i default = st.getD i default := pre_at hL3_2 (by omega)
  refine xA tb hM0 9 [1,2,3,4,6,7,8,9,10,49] [2,7,9,21,36,41,42] rfl ?_
  refine spC 49 rfl ?_ ?_ <;> intro h4 <;> try simp only [dq] at h4
  refine xA tb hM0 5 [1,2,3,4,6,7,8,9,10] [2,7,9,21,36,41,42] rfl ?_
  refine ct (fun zs => zs = ⟨113, [(1, .v .mx (dpc d)), (2, .pbox 2 0), (3, .v .pl (nats (clsF d))), (4, .own 21), (6, .own 36), (7, .pbox 7 0), (8, .v .pl (int i)), (9, .own 9), (10, .v .pl (int s)), (11, .v .mx (natI (d.stp (st.getD i default) s)))], [(2, .box 26 [.v .pl (.sc (.int .i64 0)), .v .pl (.sc (.slice none 0 0)), .v .pl (.sc (.slice none 0 0))]), (7, .box 26 [.v .pl (int d.size), .own 41, .own 42]), (9, .arr 3 ((rI (mnext d) (l.getD i default) l s).map int)), (21, .arr 3 ((nm d.n (grow (mnext d) (l.getD i default) l s)).map int)), (36, .arr 3 (st2.map natI)), (41, .arr 22 ((rowsX (mnext d) d.k l (l.take i)).map ints)), (42, .arr 4 ((finX (mfin d) (l.take i)).map bool))]⟩) ?_ ?_
  refine code_draw mixed (by kernel_rfl) _ rfl ?_
  refine dl_pure rfl rfl rfl (pure_field rfl fd26_1 rfl) ?_
  refine dl_pure rfl rfl rfl (pure_load rfl ag23 rfl rfl) ?_
  refine dl_pure rfl rfl rfl (pure_move rfl rfl) ?_
  refine dl_pure rfl rfl rfl (pure_move rfl rfl) ?_
  refine dl_pure rfl rfl rfl (pure_index_own rfl Try.underlying22 sz3 rfl rfl rfl (by rw [List.length_map]; have := hL3_2.length_le; omega)) ?_
  refine dl_pure rfl rfl rfl (pure_load_pel rfl ag3 rfl rfl (mget (by have := hL3_2.length_le; omega)) rfl) ?_
  refine dl_pure rfl rfl rfl (pure_ix rfl Try.underlying23 sz22 rfl rfl (by rw [Int.toNat_natCast, hat]; exact ⟨Int.natCast_nonneg _, Int.ofNat_lt.2 hq⟩) (fun _ => rfl)) ?_
  refine dpk 113 [(1,_),(2,_),(3,_),(4,_),(6,_),(7,_),(8,_),(9,_),(10,_),(58,_)] [(2,_),(7,_),(9,_),(21,_),(36,_),(41,_),(42,_)] rfl rfl rfl ?_
  refine dl_pure rfl rfl rfl (pure_load rfl ag22 rfl rfl) ?_
  refine dl_pure rfl rfl rfl (pure_move rfl rfl) ?_
  refine dl_pure rfl rfl rfl (pure_ix rfl Try.underlying22 sz3 rfl rfl (by rw [Int.toNat_natCast, hat]; exact ⟨Int.natCast_nonneg _, Int.ofNat_lt.2 (show s < _ by have := (hd.row hq).1; omega)⟩) (fun _ => rfl)) ?_
  refine dl_pure rfl rfl rfl (pure_load rfl ag3 rfl rfl) ?_
  refine dl_pure rfl rfl rfl (pure_assign rfl rfl) ?_
  refine dl_nil ?_
  refine xD tb hM0 0 [1,2,3,4,6,7,8,9,10,11] [2,7,9,21,36,41,42] rfl ?_
  refine cx ?_
  have e2 := hd.cellN (i := st.getD i default) (k := s) hq (by omega)
  exact (by simp only [Int.toNat_natCast]; rw [hat, e2]; first | done | rfl)
  rintro zs ⟨rfl⟩
  have hk : (d.stp (st.getD i default) s) < d.n := hd.stp hq (by omega)
  have hkc : (clsF d).getD (d.stp (st.getD i default) s) default < d.n := cls_lt hd _ (el_mem (l := clsF d) (by omega))
  have hck : (clsF d).getD (d.stp (st.getD i default) s) default = mnext d (l.getD i default) s := by rw [← hcx]; exact (mnext_cl hd hq (by omega)).symm
  refine ct (fun zs => ∃ st3 : List Nat, (Rp d (grow (mnext d) (l.getD i default) l (s + 1)) st3) ∧ (st <+: st3) ∧ zs = ⟨113, [(1, .v .mx (dpc d)), (2, .pbox 2 0), (3, .v .pl (nats (clsF d))), (4, .own 21), (6, .own 36), (7, .pbox 7 0), (8, .v .pl (int i)), (9, .own 9), (10, .v .pl (int s)), (11, .v .mx (natI (d.stp (st.getD i default) s)))], [(2, .box 26 [.v .pl (.sc (.int .i64 0)), .v .pl (.sc (.slice none 0 0)), .v .pl (.sc (.slice none 0 0))]), (7, .box 26 [.v .pl (int d.size), .own 41, .own 42]), (9, .arr 3 ((rI (mnext d) (l.getD i default) l s).map int)), (21, .arr 3 ((nm d.n (grow (mnext d) (l.getD i default) l (s + 1))).map int)), (36, .arr 3 (st3.map natI)), (41, .arr 22 ((rowsX (mnext d) d.k l (l.take i)).map ints)), (42, .arr 4 ((finX (mfin d) (l.take i)).map bool))]⟩) ?_ ?_
  refine xA tb hM0 5 [1,2,3,4,6,7,8,9,10,11,63,64,65] [2,7,9,21,36,41,42] rfl ?_
  refine oP rfl (pure_ix rfl Try.underlying22 sz3 rfl rfl (by omega) (fun _ => rfl)) ?_
  refine xA tb hM0 1 [1,2,3,4,6,7,8,9,10,11,63,67] [2,7,9,21,36,41,42] rfl ?_
  refine oP rfl (pure_index_own rfl Try.underlying22 sz3 rfl rfl rfl (by exact ⟨Int.natCast_nonneg _, by rw [List.length_map, nm_len]; exact Int.ofNat_lt.2 hkc⟩)) ?_
  refine oP rfl (pure_load_pel rfl ag3 rfl rfl (mget (by rw [nm_len]; exact hkc)) rfl) ?_
  refine xA tb hM0 3 [1,2,3,4,6,7,8,9,10,11,70] [2,7,9,21,36,41,42] rfl ?_
  refine spC 70 rfl ?_ ?_ <;> intro h5 <;> try simp only [dq] at h5
  have hnew := nm_neg (n := d.n) (c := (clsF d).getD (d.stp (st.getD i default) s) default) (l := (grow (mnext d) (l.getD i default) l s)) (cls_lt hd _ (el_mem (l := clsF d) (by omega))) (by assumption)
  rw [hck] at hnew
  refine xA tb hM0 6 [1,2,3,4,6,7,8,9,10,11,71,72,73] [2,7,9,21,36,41,42] rfl ?_
  refine oP rfl (pure_ix rfl Try.underlying22 sz3 rfl rfl (by omega) (fun _ => rfl)) ?_
  refine xA tb hM0 2 [1,2,3,4,6,7,8,9,10,11,71,75,76] [2,7,9,21,36,41,42] rfl ?_
  refine oP rfl (pure_lenm rfl Try.underlying22 rfl) ?_
  refine oP rfl (pure_index_own rfl Try.underlying22 sz3 rfl rfl rfl (by exact ⟨Int.natCast_nonneg _, by rw [List.length_map, nm_len]; exact Int.ofNat_lt.2 hkc⟩)) ?_
  refine xA tb hM0 0 [1,2,3,4,6,7,8,9,10,11,77,78] [2,7,9,21,36,41,42] rfl ?_
  refine oS rfl (step_store_pel rfl rfl rfl sz3 rfl rfl (mget (by rw [nm_len]; exact hkc)) rfl rfl (.inl rfl) rfl (Nat.le_of_ble_eq_true rfl) hM0) rfl ?_
  refine xA tb hM0 5 [1,2,3,4,7,8,9,10,11,79,80] [2,7,9,21,36,41,42] rfl ?_
  refine oP rfl (pure_lit rfl Try.underlying22 el3 rfl rfl rfl rfl hM0) ?_
  refine oS rfl (step_append rfl rfl rfl rfl Try.underlying22 el3 rfl rfl hM0 (src_pl rfl (one_len (by rfl))) (by rw [List.length_map]; simp only [List.length_cons, List.length_nil]; omega) (by rw [List.length_map]; simp only [List.length_cons, List.length_nil]; omega)) rfl ?_
  refine xA tb hM0 2 [1,2,3,4,6,7,8,9,10,11] [2,7,9,21,36,41,42] rfl ?_
  refine cx ?_
  refine ⟨st2 ++ [(d.stp (st.getD i default) s)], by rw [grow_new hnew, ← hck]; exact hL3_1.snoc hk, hL3_2.trans (List.prefix_append _ _), ?_⟩
  rw [grow_new hnew, ← nm_snocI (by rw [← hck]; exact hkc) hnew, ← hL3_1.len, ← hck, List.map_append]; rfl
  have hold := nm_pos (n := d.n) (c := (clsF d).getD (d.stp (st.getD i default) s) default) (l := (grow (mnext d) (l.getD i default) l s)) (cls_lt hd _ (el_mem (l := clsF d) (by omega))) (by omega)
  rw [hck] at hold
  refine xA tb hM0 2 [1,2,3,4,6,7,8,9,10,11] [2,7,9,21,36,41,42] rfl ?_
  refine cx ?_
  exact ⟨st2, by rw [grow_old hold]; exact hL3_1, hL3_2, by rw [grow_old hold]⟩
  rintro zs ⟨st3, hC23_0, hC23_1, rfl⟩
  refine xA tb hM0 5 [1,2,3,4,6,7,8,10,83,84,85,86] [2,7,9,21,36,41,42] rfl ?_
  refine oP rfl (pure_ix rfl Try.underlying22 sz3 rfl rfl (by omega) (fun _ => rfl)) ?_
  refine xA tb hM0 1 [1,2,3,4,6,7,8,10,83,84,88] [2,7,9,21,36,41,42] rfl ?_
  refine oP rfl (pure_index_own rfl Try.underlying22 sz3 rfl rfl rfl (by exact ⟨Int.natCast_nonneg _, by rw [List.length_map, nm_len]; exact Int.ofNat_lt.2 hkc⟩)) ?_
  refine oP rfl (pure_load_pel rfl ag3 rfl rfl (mget (by rw [nm_len]; exact hkc)) rfl) ?_
  refine xA tb hM0 0 [1,2,3,4,6,7,8,10,83,90] [2,7,9,21,36,41,42] rfl ?_
  refine oP rfl (pure_lit rfl Try.underlying22 el3 rfl rfl rfl rfl hM0) ?_
  refine oS rfl (step_append rfl rfl rfl rfl Try.underlying22 el3 rfl rfl hM0 (src_pl rfl (one_len (by rfl))) (by rw [List.length_map, rI_len]; simp only [List.length_cons, List.length_nil]; omega) (by rw [List.length_map, rI_len]; simp only [List.length_cons, List.length_nil]; omega)) rfl ?_
  refine xA tb hM0 6 [1,2,3,4,6,7,8,9,50] [2,7,9,21,36,41,42] rfl ?_
  refine oP rfl (pure_addi rfl rfl rfl (by omega)) ?_
  refine xA tb hM0 2 [1,2,3,4,6,7,8,9,10] [2,7,9,21,36,41,42] rfl ?_
  refine nx ?_
  refine ⟨_, ⟨st3, s + 1, rfl, by omega, hC23_0, hC23_1, ?_⟩, by omega⟩
  have e8 := nm_hit (n := d.n) (l := (grow (mnext d) (l.getD i default) l (s + 1))) hkc (by rw [hck]; exact (grow_mem _ _ _).2 (.inr ⟨s, by omega, rfl⟩))
  rw [hck] at e8
  rw [rI_succ, List.map_append, ← e8, ← hck]; rfl
  refine xA tb hM0 7 [1,2,3,4,6,7,8,9] [2,7,9,21,36,41,42] rfl ?_
  refine code_frz 113 [(1, _), (2, _), (3, _), (4, _), (6, _), (7, _), (8, _), (9, _)] [(2, _), (7, _), (21, _), (36, _), (41, _), (42, _)] hM0 rfl ⟨.inl rfl, .inl rfl, .inl rfl, .inl rfl, .inl rfl, .inl rfl, .inl rfl, .inr ⟨_, _, rfl, rfl, rfl⟩, trivial⟩ ⟨rfl, rfl, rfl, rfl, rfl, rfl, trivial⟩ ?_
  obtain rfl : s = d.k := by omega
  rw [rI_all]
  refine xK tb hM0 4 [1,2,3,4,6,7,8,94,95] [2,7,21,36,41,42] rfl ?_
  refine oP rfl (pure_lit rfl Try.underlying23 el22 rfl rfl rfl rfl hM0) ?_
  refine oS rfl (step_append rfl rfl rfl rfl Try.underlying23 el22 rfl rfl hM0 (src_pl rfl (one_len (by rfl))) (by rw [List.length_map, rows_len, List.length_take]; simp only [List.length_cons, List.length_nil]; omega) (by rw [List.length_map, rows_len, List.length_take]; simp only [List.length_cons, List.length_nil]; omega)) rfl ?_
  refine xA tb hM0 4 [1,2,3,4,6,7,8] [2,7,21,36,41,42] rfl ?_
  refine code_draw mixed (by kernel_rfl) _ rfl ?_
  refine dl_pure rfl rfl rfl (pure_field_box rfl fd26_2 rfl rfl) ?_
  refine dl_pure rfl rfl rfl (pure_load_box rfl ag24 rfl rfl rfl) ?_
  refine dl_pure rfl rfl rfl (pure_field rfl fd26_2 rfl) ?_
  refine dl_pure rfl rfl rfl (pure_load rfl ag24 rfl rfl) ?_
  refine dl_pure rfl rfl rfl (pure_move rfl rfl) ?_
  refine dl_pure rfl rfl rfl (pure_move rfl rfl) ?_
  refine dl_pure rfl rfl rfl (pure_index_own rfl Try.underlying22 sz3 rfl rfl rfl (by rw [List.length_map]; have := hL3_2.length_le; omega)) ?_
  refine dpk 113 [(1,_),(2,_),(3,_),(4,_),(6,_),(7,_),(8,_),(100,_),(102,_),(105,_)] [(2,_),(7,_),(21,_),(36,_),(41,_),(42,_)] rfl rfl rfl ?_
  refine dl_pure rfl rfl rfl (pure_load_pel rfl ag3 rfl rfl (mget (by have := hL3_2.length_le; omega)) rfl) ?_
  refine dl_pure rfl rfl rfl (pure_ix rfl Try.underlying24 sz4 rfl rfl (by rw [Int.toNat_natCast, hat]; exact ⟨Int.natCast_nonneg _, Int.ofNat_lt.2 (show st.getD i default < d.fin.length by omega)⟩) (fun _ => rfl)) ?_
  refine dl_pure rfl rfl rfl (pure_load rfl ag4 rfl rfl) ?_
  refine dl_pure rfl rfl rfl (pure_lit rfl Try.underlying24 el4 rfl rfl rfl rfl hM0) ?_
  refine dl_tails (by kernel_rfl) ?_
  refine tl_step rfl (step_append rfl rfl rfl rfl Try.underlying24 el4 rfl rfl hM0 (src_pl rfl (one_len (by rfl))) (by rw [List.length_map, fin_len, List.length_take]; simp only [List.length_cons, List.length_nil]; omega) (by rw [List.length_map, fin_len, List.length_take]; simp only [List.length_cons, List.length_nil]; omega)) ?_
  refine tl_pure rfl rfl rfl (pure_field_box rfl fd26_2 rfl rfl) ?_
  refine tl_step rfl (step_store_box_own rfl rfl rfl sz24 rfl rfl rfl rfl rfl hM0) ?_
  refine tl_nil ?_
  refine xD tb hM0 4 [1,2,3,4,6,7,44] [2,7,21,36,41,42] rfl ?_
  refine oP rfl (pure_addi rfl rfl rfl (by omega)) ?_
  refine xA tb hM0 2 [1,2,3,4,6,7,8] [2,7,21,36,41,42] rfl ?_
  refine nx ?_
  refine ⟨_, ⟨(grow (mnext d) (l.getD i default) l d.k), st2, i + 1, rfl, hL2_0.step (mnext_mem hd) (by omega) hi rfl, hL3_1, ?_⟩, by omega⟩
  have e9 : d.fin.getD (st2.getD i default) default = mfin d (l.getD i default) := by rw [hat, ← hcx]; exact (mfin_cl hd hq).symm
  rw [rows_step hL2_0.met hi rfl, fin_step hi rfl, List.map_append, List.map_append, ← e9]; rfl
  refine xA tb hM0 7 [2,7] [2,7,41,42] rfl ?_
  refine code_frz 113 [(2, _), (7, _)] [(2, _)] hM0 rfl ⟨.inl rfl, .inr ⟨_, _, rfl, rfl, rfl⟩, trivial⟩ ⟨rfl, trivial⟩ ?_
  have e1 : l.take i = l := List.take_of_length_le (by omega)
  have e2 := hL2_0.fin (by omega)
  rw [e1]
  refine xK tb hM0 6 [] [] rfl ?_
  refine endC_ret rfl ?_; rotate_left
  all_goals
    first
      | (rw [minZ_f (d := d) (by assumption)]; first | done | rfl)
      | (rw [minZ_t (d := d) (by assumption), min_cells hd e2]; first | done | rfl)
end Go.Proofs.Ytjimlkpfmbachaa

