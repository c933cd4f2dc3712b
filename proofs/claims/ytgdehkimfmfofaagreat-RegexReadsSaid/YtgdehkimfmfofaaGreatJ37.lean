/-
  Contracts: reading as the reference does it.
-/
import Derived.Test.YtgdehkimfmfofaaGreatJ36
set_option linter.unusedVariables false
set_option linter.unusedSimpArgs false
namespace Go.Proofs.YtgdehkimfmfofaaGreat
open Go.Am Go.Wb Go.Wc
set_option linter.unusedVariables false
set_option linter.unusedSimpArgs false
section
variable {S : List UInt8} {a : List Letter} {sets : List SetT}
abbrev RPostC (S : List UInt8) (a : List Letter) (sets : List SetT) (n : Nat) : Prop := ∀ s : RS, s.k ≤ S.length → S.length ≤ s.k + n → s.bad < 0 → (s.hd (tkR a sets S) = 97 ∨ s.hd (tkR a sets S) = 40) →
  CallO Tryz.prog 126 [.pbox 1000001 0] (xO S a sets s.k s.bad) (.v .pl (rx (rPost (tkR a sets S) (S.length + 1) n s).1)) (xO S a sets (rPost (tkR a sets S) (S.length + 1) n s).2.k (rPost (tkR a sets S) (S.length + 1) n s).2.bad)
abbrev RSeqC (S : List UInt8) (a : List Letter) (sets : List SetT) (n : Nat) : Prop := ∀ s : RS, s.k ≤ S.length → S.length ≤ s.k + n → s.bad < 0 →
  CallO Tryz.prog 96 [.pbox 1000001 0] (xO S a sets s.k s.bad) (.v .pl (rx (rSeq (tkR a sets S) (S.length + 1) (rPost (tkR a sets S) (S.length + 1) n) s).1)) (xO S a sets (rSeq (tkR a sets S) (S.length + 1) (rPost (tkR a sets S) (S.length + 1) n) s).2.k (rSeq (tkR a sets S) (S.length + 1) (rPost (tkR a sets S) (S.length + 1) n) s).2.bad)
abbrev RAltC (S : List UInt8) (a : List Letter) (sets : List SetT) (n : Nat) : Prop := ∀ s : RS, s.k ≤ S.length → S.length ≤ s.k + n → s.bad < 0 →
  CallO Tryz.prog 63 [.pbox 1000001 0] (xO S a sets s.k s.bad) (.v .pl (rx (rAltR (tkR a sets S) (S.length + 1) (rSeq (tkR a sets S) (S.length + 1) (rPost (tkR a sets S) (S.length + 1) n)) s).1))
    (xO S a sets (rAltR (tkR a sets S) (S.length + 1) (rSeq (tkR a sets S) (S.length + 1) (rPost (tkR a sets S) (S.length + 1) n)) s).2.k (rAltR (tkR a sets S) (S.length + 1) (rSeq (tkR a sets S) (S.length + 1) (rPost (tkR a sets S) (S.length + 1) n)) s).2.bad)
theorem fn96 : FnC Tryz.prog 96 Tryz.f96.ntmps 2 25 3 (Tryz.f96.body.getD .skip) := ⟨Tryz.f96, Tryz.func96, rfl, rfl, rfl, by kernel_rfl, ag25, sz25⟩
set_option maxRecDepth 100000 in
set_option maxHeartbeats 4000000 in
theorem rpseq_call (hS : S.length ≤ 1024) (ha : validA a = true) (hset : sets.length ≤ 9223372036854775807) (hsy : ∀ x ∈ sets, x.syms.length ≤ 9223372036854775807) {n : Nat} (hP : RPostC S a sets n) : RSeqC S a sets n := by
  intro s h1 h2 hb
  have hT := tkR_ok (sets := sets) (S := S) (validA_bd ha)
  refine callO_of_codeC fn96 (Nat.le_of_ble_eq_true rfl) fun w0 M0 hM0 => ?_
  refine xC tb hM0 7 [0,2] [2,1000001] rfl ?_
  refine oS rfl (step_nil rfl rfl rfl rfl rfl 25 hM0) rfl ?_
  refine xA tb hM0 5 [0,2,3,8] [2,3,1000001] rfl ?_
  refine oS rfl (step_callO [(1000001, 1000001)] rfl rfl rfl rfl rfl rfl rfl (token_call hS ha hset hsy (k := (s).k) (bad := (s).bad) (h1)) ⟨.inl rfl, trivial⟩ ⟨rfl, trivial⟩ rfl rfl rfl rfl rfl hM0) rfl ?_
  refine xA tb hM0 12 [0,2,3,4] [2,3,1000001] rfl ?_
  refine lp (fun zm zs => ∃ (z : RS) (m : Nat) (acc : List Rx), zm = S.length - z.k ∧ (z.k ≤ S.length ∧ S.length ≤ z.k + n ∧ S.length < z.k + m) ∧ (acc.length ≤ z.k) ∧ ((acc ++ (rSeqLp (tkR a sets S) (rPost (tkR a sets S) (S.length + 1) n) m z).1, (rSeqLp (tkR a sets S) (rPost (tkR a sets S) (S.length + 1) n) m z).2) = rSeqLp (tkR a sets S) (rPost (tkR a sets S) (S.length + 1) n) (S.length + 1) s) ∧ zs = ⟨39, [(0, .pbox 1000001 0), (2, .pbox 2 0), (3, .own 3), (4, .v .pl (.sc (.int .u8 ((tkR a sets S) (z).k).1)))], [(2, .box 25 [.v .pl (.sc (.int .i64 0)), .v .pl (.sc (.slice none 0 0)), .v .pl (.sc (.slice none 0 0))]), (3, .arr 25 (acc.map rx)), (1000001, .box 79 [.v .pl (sbytes S), .v .pl (letters a), .v .pl (setsA sets), .v .pl (int (z).k), .v .pl (int (z).bad)])]⟩) ?_ ?_
  ·exact ⟨_, s, (S.length + 1), [], rfl, ⟨h1, h2, by omega⟩, Nat.zero_le _, rfl, rfl⟩
  ·rintro zm zs ⟨z, m, acc, rfl, hL1_0, hL1_1, hL1_2, rfl⟩
   obtain ⟨hz1, hz2, hz3⟩ := hL1_0
   have hpo := fun h h2 => rPost_ok (N := (S.length + 1)) hT n z hz1 hz2 h h2
   refine xA tb hM0 9 [0,2,3,4,18] [2,3,1000001] rfl ?_
   refine spO 18 rfl ?_ ?_ <;> intro h1' <;> try simp only [dq] at h1'
   ·skip
    refine xA tb hM0 1 [0,2,3,4,18,19] [2,3,1000001] rfl ?_
    refine oP rfl (pure_eql rfl rfl rfl) ?_
    refine xA tb hM0 1 [0,2,3,4,18,21] [2,3,1000001] rfl ?_
    refine spO 21 rfl ?_ ?_ <;> intro h2' <;> try simp only [dq] at h2'
    ·skip
     refine xA tb hM0 14 [0,2,26,27] [2,3,1000001] rfl ?_
     refine oS rfl (step_callO [(1000001, 1000001)] rfl rfl rfl rfl rfl rfl rfl (hP z hz1 hz2 (by omega) (by unfold RS.hd; omega)) ⟨.inl rfl, trivial⟩ ⟨rfl, trivial⟩ rfl rfl rfl rfl rfl hM0) rfl ?_
     refine xA tb hM0 0 [0,2,26,28] [2,3,1000001] rfl ?_
     refine oP rfl (pure_lit rfl Tryz.underlying23 el25 rfl rfl rfl rfl hM0) ?_
     refine oS rfl (step_append rfl rfl rfl rfl Tryz.underlying23 el25 rfl rfl hM0 (src_pl rfl (one_len (by rfl))) (by first | (simp only [ll]; omega) | omega) (by first | (simp only [ll]; omega) | omega)) rfl ?_
     refine xA tb hM0 5 [0,2,3,32] [2,3,1000001] rfl ?_
     refine oS rfl (step_callO [(1000001, 1000001)] rfl rfl rfl rfl rfl rfl rfl (token_call hS ha hset hsy (k := (((rPost (tkR a sets S) (S.length + 1) n) z).2).k) (bad := (((rPost (tkR a sets S) (S.length + 1) n) z).2).bad) (by have := hpo (by omega) (by unfold RS.hd; omega); omega)) ⟨.inl rfl, trivial⟩ ⟨rfl, trivial⟩ rfl rfl rfl rfl rfl hM0) rfl ?_
     refine xA tb hM0 7 [0,2,3,4] [2,3,1000001] rfl ?_
     refine nx ?_
     have hk : z.hd (tkR a sets S) = 97 ∨ z.hd (tkR a sets S) = 40 := by unfold RS.hd; omega
     obtain ⟨g1, g2, g3⟩ := hpo (by omega) hk
     obtain ⟨m, rfl⟩ : ∃ m', m = m' + 1 := ⟨m - 1, by omega⟩
     refine ⟨_, ⟨((rPost (tkR a sets S) (S.length + 1) n) z).2, m, acc ++ [((rPost (tkR a sets S) (S.length + 1) n) z).1], rfl, ⟨g2, by omega, by omega⟩, by rw [List.length_append, List.length_singleton]; omega, ?_, ?_⟩, by omega⟩
     · rw [← hL1_2, rSeqLp_step ⟨by omega, hk⟩, List.append_assoc]; rfl
     · rw [List.map_append]; rfl
    ·skip
     refine xA tb hM0 1 [0,2,3,18,21,22] [2,3,1000001] rfl ?_
     refine oP rfl (pure_eql rfl rfl rfl) ?_
     refine xA tb hM0 4 [0,2,3,25] [2,3,1000001] rfl ?_
     refine spC 25 rfl ?_ ?_ <;> intro h3 <;> try simp only [dq] at h3
     ·skip
      refine xA tb hM0 8 [0,2,26,27] [2,3,1000001] rfl ?_
      refine oS rfl (step_callO [(1000001, 1000001)] rfl rfl rfl rfl rfl rfl rfl (hP z hz1 hz2 (by omega) (by unfold RS.hd; omega)) ⟨.inl rfl, trivial⟩ ⟨rfl, trivial⟩ rfl rfl rfl rfl rfl hM0) rfl ?_
      refine xA tb hM0 0 [0,2,26,28] [2,3,1000001] rfl ?_
      refine oP rfl (pure_lit rfl Tryz.underlying23 el25 rfl rfl rfl rfl hM0) ?_
      refine oS rfl (step_append rfl rfl rfl rfl Tryz.underlying23 el25 rfl rfl hM0 (src_pl rfl (one_len (by rfl))) (by first | (simp only [ll]; omega) | omega) (by first | (simp only [ll]; omega) | omega)) rfl ?_
      refine xA tb hM0 5 [0,2,3,32] [2,3,1000001] rfl ?_
      refine oS rfl (step_callO [(1000001, 1000001)] rfl rfl rfl rfl rfl rfl rfl (token_call hS ha hset hsy (k := (((rPost (tkR a sets S) (S.length + 1) n) z).2).k) (bad := (((rPost (tkR a sets S) (S.length + 1) n) z).2).bad) (by have := hpo (by omega) (by unfold RS.hd; omega); omega)) ⟨.inl rfl, trivial⟩ ⟨rfl, trivial⟩ rfl rfl rfl rfl rfl hM0) rfl ?_
      refine xA tb hM0 7 [0,2,3,4] [2,3,1000001] rfl ?_
      refine nx ?_
      have hk : z.hd (tkR a sets S) = 97 ∨ z.hd (tkR a sets S) = 40 := by unfold RS.hd; omega
      obtain ⟨g1, g2, g3⟩ := hpo (by omega) hk
      obtain ⟨m, rfl⟩ : ∃ m', m = m' + 1 := ⟨m - 1, by omega⟩
      refine ⟨_, ⟨((rPost (tkR a sets S) (S.length + 1) n) z).2, m, acc ++ [((rPost (tkR a sets S) (S.length + 1) n) z).1], rfl, ⟨g2, by omega, by omega⟩, by rw [List.length_append, List.length_singleton]; omega, ?_, ?_⟩, by omega⟩
      · rw [← hL1_2, rSeqLp_step ⟨by omega, hk⟩, List.append_assoc]; rfl
      · rw [List.map_append]; rfl
     ·skip
      refine xA tb hM0 7 [2,3] [2,3,1000001] rfl ?_
      refine code_frz 39 [(2, _), (3, _)] [(2, _), (1000001, _)] hM0 rfl ⟨.inl rfl, .inr ⟨_, _, rfl, rfl, rfl⟩, trivial⟩ ⟨rfl, rfl, trivial⟩ ?_
      refine xK tb hM0 2 [2,37] [2,1000001] rfl ?_
      refine oP rfl (pure_callN rfl rfl rfl rfl (of_call 3 acc) hM0) ?_
      refine xA tb hM0 4 [] [] rfl ?_
      refine endOC_ret (o1 := [(1000001, _)]) rfl ⟨rfl, trivial⟩ ?_
      have hs0 : rSeqLp (tkR a sets S) (rPost (tkR a sets S) (S.length + 1) n) m z = ([], z) := rSeqLp_stop (by unfold RS.hd; omega)
      rw [hs0, List.append_nil] at hL1_2
      rw [rSeq_is hL1_2]; exact ⟨rfl, rfl⟩
   ·skip
    refine xA tb hM0 16 [2,3] [2,3,1000001] rfl ?_
    refine code_frz 39 [(2, _), (3, _)] [(2, _), (1000001, _)] hM0 rfl ⟨.inl rfl, .inr ⟨_, _, rfl, rfl, rfl⟩, trivial⟩ ⟨rfl, rfl, trivial⟩ ?_
    refine xK tb hM0 2 [2,37] [2,1000001] rfl ?_
    refine oP rfl (pure_callN rfl rfl rfl rfl (of_call 3 acc) hM0) ?_
    refine xA tb hM0 4 [] [] rfl ?_
    refine endOC_ret (o1 := [(1000001, _)]) rfl ⟨rfl, trivial⟩ ?_
    have hs0 : rSeqLp (tkR a sets S) (rPost (tkR a sets S) (S.length + 1) n) m z = ([], z) := rSeqLp_stop (by unfold RS.hd; omega)
    rw [hs0, List.append_nil] at hL1_2
    rw [rSeq_is hL1_2]; exact ⟨rfl, rfl⟩
theorem fn63 : FnC Tryz.prog 63 Tryz.f63.ntmps 2 25 3 (Tryz.f63.body.getD .skip) := ⟨Tryz.f63, Tryz.func63, rfl, rfl, rfl, by kernel_rfl, ag25, sz25⟩
set_option maxRecDepth 100000 in
set_option maxHeartbeats 4000000 in
theorem rpalt_call (hS : S.length ≤ 1024) (ha : validA a = true) (hset : sets.length ≤ 9223372036854775807) (hsy : ∀ x ∈ sets, x.syms.length ≤ 9223372036854775807) {n : Nat} (hQ : RSeqC S a sets n) : RAltC S a sets n := by
  intro s h1 h2 hb
  have hT := tkR_ok (sets := sets) (S := S) (validA_bd ha)
  refine callO_of_codeC fn63 (Nat.le_of_ble_eq_true rfl) fun w0 M0 hM0 => ?_
  refine xC tb hM0 7 [0,2] [2,1000001] rfl ?_
  refine oS rfl (step_nil rfl rfl rfl rfl rfl 25 hM0) rfl ?_
  refine xA tb hM0 9 [0,2,3,4] [2,3,1000001] rfl ?_
  refine lp (fun zm zs => ∃ (z : RS) (m : Nat) (acc : List Rx) (more : Bool), zm = (if more then S.length - z.k + 1 else 0) ∧ (z.k ≤ S.length ∧ S.length ≤ z.k + n) ∧ (more = true → acc.length ≤ z.k ∧ S.length < z.k + m ∧ (acc ++ (rAltLp (tkR a sets S) (rSeq (tkR a sets S) (S.length + 1) (rPost (tkR a sets S) (S.length + 1) n)) m z).1, (rAltLp (tkR a sets S) (rSeq (tkR a sets S) (S.length + 1) (rPost (tkR a sets S) (S.length + 1) n)) m z).2) = rAltLp (tkR a sets S) (rSeq (tkR a sets S) (S.length + 1) (rPost (tkR a sets S) (S.length + 1) n)) (S.length + 1) s) ∧ (more = false → (acc, z) = rAltLp (tkR a sets S) (rSeq (tkR a sets S) (S.length + 1) (rPost (tkR a sets S) (S.length + 1) n)) (S.length + 1) s) ∧ (acc.length ≤ z.k + 1) ∧ zs = ⟨41, [(0, .pbox 1000001 0), (2, .pbox 2 0), (3, .own 3), (4, .v .pl (bool more))], [(2, .box 25 [.v .pl (.sc (.int .i64 0)), .v .pl (.sc (.slice none 0 0)), .v .pl (.sc (.slice none 0 0))]), (3, .arr 25 (acc.map rx)), (1000001, .box 79 [.v .pl (sbytes S), .v .pl (letters a), .v .pl (setsA sets), .v .pl (int (z).k), .v .pl (int (z).bad)])]⟩) ?_ ?_
  ·exact ⟨_, s, (S.length + 1), [], true, rfl, ⟨h1, h2⟩, fun _ => ⟨Nat.zero_le _, by omega, rfl⟩, fun q => absurd q (by decide), Nat.zero_le _, rfl⟩
  ·rintro zm zs ⟨z, m, acc, more, rfl, hL1_0, hL1_1, hL1_2, hL1_3, rfl⟩
   obtain ⟨hz1, hz2⟩ := hL1_0
   have hso := fun h => rSeq_ok (N := (S.length + 1)) (rPost_ok (N := (S.length + 1)) hT n) z hz1 hz2 h
   refine xA tb hM0 5 [0,2,3,9] [2,3,1000001] rfl ?_
   refine spO 9 rfl ?_ ?_ <;> intro h1' <;> try simp only [dq] at h1'
   ·skip
    refine xA tb hM0 8 [0,2,3,15] [2,3,1000001] rfl ?_
    refine spC 15 rfl ?_ ?_ <;> intro h2 <;> try simp only [dq] at h2
    ·skip
     refine xA tb hM0 8 [0,2,16,17] [2,3,1000001] rfl ?_
     refine oS rfl (step_callO [(1000001, 1000001)] rfl rfl rfl rfl rfl rfl rfl (hQ z hz1 hz2 (by omega)) ⟨.inl rfl, trivial⟩ ⟨rfl, trivial⟩ rfl rfl rfl rfl rfl hM0) rfl ?_
     refine xA tb hM0 0 [0,2,16,18] [2,3,1000001] rfl ?_
     refine oP rfl (pure_lit rfl Tryz.underlying23 el25 rfl rfl rfl rfl hM0) ?_
     refine oS rfl (step_append rfl rfl rfl rfl Tryz.underlying23 el25 rfl rfl hM0 (src_pl rfl (one_len (by rfl))) (by first | (simp only [ll]; omega) | omega) (by first | (simp only [ll]; omega) | omega)) rfl ?_
     refine xA tb hM0 6 [0,2,3,22] [2,3,1000001] rfl ?_
     refine oS rfl (step_callO [(1000001, 1000001)] rfl rfl rfl rfl rfl rfl rfl (token_call hS ha hset hsy (k := (((rSeq (tkR a sets S) (S.length + 1) (rPost (tkR a sets S) (S.length + 1) n)) z).2).k) (bad := (((rSeq (tkR a sets S) (S.length + 1) (rPost (tkR a sets S) (S.length + 1) n)) z).2).bad) (by have := hso (by omega); omega)) ⟨.inl rfl, trivial⟩ ⟨rfl, trivial⟩ rfl rfl rfl rfl rfl hM0) rfl ?_
     refine xA tb hM0 13 [0,2,3,7,27] [2,3,1000001] rfl ?_
     refine oP rfl (pure_eql rfl rfl rfl) ?_
     refine xA tb hM0 8 [0,2,3,4,7,29] [2,3,1000001] rfl ?_
     refine spC 29 rfl ?_ ?_ <;> intro h3 <;> try simp only [dq] at h3
     ·skip
      refine xA tb hM0 8 [0,2,3,4,30,34,35] [2,3,1000001] rfl ?_
      refine oP rfl (pure_addi rfl rfl rfl (by have q := hso (by omega); have := hT.le _ q.2.1; omega)) ?_
      refine xA tb hM0 5 [0,2,3,4] [2,3,1000001] rfl ?_
      refine nx ?_
      have hmt : more = true := by assumption
      subst hmt
      obtain ⟨q1, q2, q3⟩ := hL1_1 rfl
      obtain ⟨g1, g2, g3⟩ := hso (by omega)
      have hk : ((rSeq (tkR a sets S) (S.length + 1) (rPost (tkR a sets S) (S.length + 1) n)) z).2.hd (tkR a sets S) = 124 := by unfold RS.hd; omega
      obtain ⟨a1, a2⟩ := hT.adv g2 (by omega)
      obtain ⟨m, rfl⟩ : ∃ m', m = m' + 1 := ⟨m - 1, by omega⟩
      refine ⟨_, ⟨((rSeq (tkR a sets S) (S.length + 1) (rPost (tkR a sets S) (S.length + 1) n)) z).2.adv (tkR a sets S), m, acc ++ [((rSeq (tkR a sets S) (S.length + 1) (rPost (tkR a sets S) (S.length + 1) n)) z).1], true, rfl, ⟨a2, by omega⟩, fun _ => ⟨by rw [List.length_append, List.length_singleton]; omega, by omega, ?_⟩, fun q => absurd q (by decide), by rw [List.length_append, List.length_singleton]; omega, ?_⟩, ?_⟩
      · rw [← q3, rAltLp_more (by omega) hk, List.append_assoc]; rfl
      · rw [List.map_append, decide_eq_true (show ((tkR a sets S) ((rSeq (tkR a sets S) (S.length + 1) (rPost (tkR a sets S) (S.length + 1) n)) z).2.k).1 = 124 from hk)]; rfl
      · show S.length - _ + 1 < S.length - _ + 1; omega
     ·skip
      refine xA tb hM0 3 [0,2,3,4] [2,3,1000001] rfl ?_
      refine nx ?_
      have hmt : more = true := by assumption
      subst hmt
      obtain ⟨q1, q2, q3⟩ := hL1_1 rfl
      obtain ⟨g1, g2, g3⟩ := hso (by omega)
      have hk : ((rSeq (tkR a sets S) (S.length + 1) (rPost (tkR a sets S) (S.length + 1) n)) z).2.hd (tkR a sets S) ≠ 124 := by unfold RS.hd; omega
      obtain ⟨m, rfl⟩ : ∃ m', m = m' + 1 := ⟨m - 1, by omega⟩
      refine ⟨_, ⟨((rSeq (tkR a sets S) (S.length + 1) (rPost (tkR a sets S) (S.length + 1) n)) z).2, m, acc ++ [((rSeq (tkR a sets S) (S.length + 1) (rPost (tkR a sets S) (S.length + 1) n)) z).1], false, rfl, ⟨g2, by omega⟩, fun q => absurd q (by decide), fun _ => ?_, by rw [List.length_append, List.length_singleton]; omega, ?_⟩, ?_⟩
      · rw [← q3, rAltLp_last (by omega) hk]
      · rw [List.map_append, decide_eq_false (show ¬ ((tkR a sets S) ((rSeq (tkR a sets S) (S.length + 1) (rPost (tkR a sets S) (S.length + 1) n)) z).2.k).1 = 124 from hk)]; rfl
      · show 0 < S.length - _ + 1; omega
    ·skip
     refine xA tb hM0 7 [2,3] [2,3,1000001] rfl ?_
     refine code_frz 41 [(2, _), (3, _)] [(2, _), (1000001, _)] hM0 rfl ⟨.inl rfl, .inr ⟨_, _, rfl, rfl, rfl⟩, trivial⟩ ⟨rfl, rfl, trivial⟩ ?_
     refine xK tb hM0 2 [2,39] [2,1000001] rfl ?_
     refine oP rfl (pure_callN rfl rfl rfl rfl (of_call 4 acc) hM0) ?_
     refine xA tb hM0 4 [] [] rfl ?_
     refine endOC_ret (o1 := [(1000001, _)]) rfl ⟨rfl, trivial⟩ ?_
     have hs0 : (acc, z) = rAltLp (tkR a sets S) (rSeq (tkR a sets S) (S.length + 1) (rPost (tkR a sets S) (S.length + 1) n)) (S.length + 1) s := by
       first
         | exact hL1_2 (by assumption)
         | (have q3 := (hL1_1 (by assumption)).2.2
            rw [rAltLp_stop (by omega), List.append_nil] at q3
            exact q3)
     rw [rAlt_is hs0]; exact ⟨rfl, rfl⟩
   ·skip
    refine xA tb hM0 15 [2,3] [2,3,1000001] rfl ?_
    refine code_frz 41 [(2, _), (3, _)] [(2, _), (1000001, _)] hM0 rfl ⟨.inl rfl, .inr ⟨_, _, rfl, rfl, rfl⟩, trivial⟩ ⟨rfl, rfl, trivial⟩ ?_
    refine xK tb hM0 2 [2,39] [2,1000001] rfl ?_
    refine oP rfl (pure_callN rfl rfl rfl rfl (of_call 4 acc) hM0) ?_
    refine xA tb hM0 4 [] [] rfl ?_
    refine endOC_ret (o1 := [(1000001, _)]) rfl ⟨rfl, trivial⟩ ?_
    have hs0 : (acc, z) = rAltLp (tkR a sets S) (rSeq (tkR a sets S) (S.length + 1) (rPost (tkR a sets S) (S.length + 1) n)) (S.length + 1) s := by
      first
        | exact hL1_2 (by assumption)
        | (have q3 := (hL1_1 (by assumption)).2.2
           rw [rAltLp_stop (by omega), List.append_nil] at q3
           exact q3)
    rw [rAlt_is hs0]; exact ⟨rfl, rfl⟩
theorem fn126 : FnC Tryz.prog 126 Tryz.f126.ntmps 2 25 3 (Tryz.f126.body.getD .skip) := ⟨Tryz.f126, Tryz.func126, rfl, rfl, rfl, by kernel_rfl, ag25, sz25⟩
set_option maxRecDepth 100000 in
set_option maxHeartbeats 4000000 in
theorem rppost_call (hS : S.length ≤ 1024) (ha : validA a = true) (hset : sets.length ≤ 9223372036854775807) (hsy : ∀ x ∈ sets, x.syms.length ≤ 9223372036854775807) {n : Nat} (hA : RAltC S a sets n) : RPostC S a sets (n + 1) := by
  intro s h1 h2 hb hk
  have hT := tkR_ok (sets := sets) (S := S) (validA_bd ha)
  obtain ⟨f1, f2⟩ := hT.adv h1 (by omega)
  have hAo := rAlt_ok (N := S.length + 1) hT (rSeq_ok (N := S.length + 1) (rPost_ok (N := S.length + 1) hT n)) (s.adv (tkR a sets S)) f2 (by omega) hb
  refine callO_of_codeC fn126 (Nat.le_of_ble_eq_true rfl) fun w0 M0 hM0 => ?_
  refine xC tb hM0 8 [0,2,7] [2,1000001] rfl ?_
  refine oS rfl (step_callO [(1000001, 1000001)] rfl rfl rfl rfl rfl rfl rfl (token_call hS ha hset hsy (k := (s).k) (bad := (s).bad) (h1)) ⟨.inl rfl, trivial⟩ ⟨rfl, trivial⟩ rfl rfl rfl rfl rfl hM0) rfl ?_
  refine xA tb hM0 10 [0,2,3,4,5] [2,4,1000001] rfl ?_
  refine ct (fun zs => zs = ⟨99, [(0, .pbox 1000001 0), (2, .pbox 2 0), (3, .v .pl (.sc (.int .u8 ((tkR a sets S) (s).k).1))), (4, .pbox 4 0)], [(2, .box 25 [.v .pl (.sc (.int .i64 0)), .v .pl (.sc (.slice none 0 0)), .v .pl (.sc (.slice none 0 0))]), (4, .box 25 [.v .pl (int (((tkR a sets S) s.k).2.1).kind), .v .pl (ints (((tkR a sets S) s.k).2.1).syms), .v .pl (.sl (Rx.avs (((tkR a sets S) s.k).2.1).kids))]), (1000001, .box 79 [.v .pl (sbytes S), .v .pl (letters a), .v .pl (setsA sets), .v .pl (int ((s.adv (tkR a sets S))).k), .v .pl (int ((s.adv (tkR a sets S))).bad)])]⟩) ?_ ?_
  ·skip
   refine xA tb hM0 7 [0,2,3,4,12,16,17] [2,4,1000001] rfl ?_
   refine oP rfl (pure_addi rfl rfl rfl (by have := hT.le _ h1; omega)) ?_
   refine xA tb hM0 4 [0,2,3,4] [2,4,1000001] rfl ?_
   refine cx ?_
   exact rfl
  ·rintro zs ⟨rfl⟩
   refine ct (fun zs => ∃ (z : RS) (x : Rx), (z.k ≤ S.length ∧ s.k < z.k) ∧ (rStarLp (tkR a sets S) (S.length + 1) z x = rPost (tkR a sets S) (S.length + 1) (n + 1) s) ∧ zs = ⟨99, [(0, .pbox 1000001 0), (2, .pbox 2 0), (4, .pbox 4 0)], [(2, .box 25 [.v .pl (.sc (.int .i64 0)), .v .pl (.sc (.slice none 0 0)), .v .pl (.sc (.slice none 0 0))]), (4, .box 25 [.v .pl (int (x).kind), .v .pl (ints (x).syms), .v .pl (.sl (Rx.avs (x).kids))]), (1000001, .box 79 [.v .pl (sbytes S), .v .pl (letters a), .v .pl (setsA sets), .v .pl (int (z).k), .v .pl (int (z).bad)])]⟩) ?_ ?_
   ·skip
    refine xA tb hM0 3 [0,2,4,21] [2,4,1000001] rfl ?_
    refine oP rfl (pure_eql rfl rfl rfl) ?_
    refine xA tb hM0 2 [0,2,4,22] [2,4,1000001] rfl ?_
    refine spC 22 rfl ?_ ?_ <;> intro h1 <;> try simp only [dq] at h1
    ·skip
     refine xA tb hM0 4 [0,2,4,23] [2,4,1000001] rfl ?_
     refine oS rfl (step_callO [(1000001, 1000001)] rfl rfl rfl rfl rfl rfl rfl (hA (s.adv (tkR a sets S)) f2 (by omega) hb) ⟨.inl rfl, trivial⟩ ⟨rfl, trivial⟩ rfl rfl rfl rfl rfl hM0) rfl ?_
     refine xA tb hM0 4 [0,2,4] [2,4,1000001] rfl ?_
     obtain ⟨g1, g2, g3⟩ := hAo
     refine xA tb hM0 2 [0,2,4,26] [2,4,1000001] rfl ?_
     refine oS rfl (step_callO [(1000001, 1000001)] rfl rfl rfl rfl rfl rfl rfl (token_call hS ha hset hsy (k := (((rAltR (tkR a sets S) (S.length + 1) (rSeq (tkR a sets S) (S.length + 1) (rPost (tkR a sets S) (S.length + 1) n))) (s.adv (tkR a sets S))).2).k) (bad := (((rAltR (tkR a sets S) (S.length + 1) (rSeq (tkR a sets S) (S.length + 1) (rPost (tkR a sets S) (S.length + 1) n))) (s.adv (tkR a sets S))).2).bad) (g2)) ⟨.inl rfl, trivial⟩ ⟨rfl, trivial⟩ rfl rfl rfl rfl rfl hM0) rfl ?_
     refine xA tb hM0 8 [0,2,3,4,5] [2,4,1000001] rfl ?_
     refine ct (fun zs => zs = ⟨99, [(0, .pbox 1000001 0), (2, .pbox 2 0), (4, .pbox 4 0), (5, .v .pl (int (((tkR a sets S) (((rAltR (tkR a sets S) (S.length + 1) (rSeq (tkR a sets S) (S.length + 1) (rPost (tkR a sets S) (S.length + 1) n))) (s.adv (tkR a sets S))).2).k).2.2 : Int)))], [(2, .box 25 [.v .pl (.sc (.int .i64 0)), .v .pl (.sc (.slice none 0 0)), .v .pl (.sc (.slice none 0 0))]), (4, .box 25 [.v .pl (int (((rAltR (tkR a sets S) (S.length + 1) (rSeq (tkR a sets S) (S.length + 1) (rPost (tkR a sets S) (S.length + 1) n))) (s.adv (tkR a sets S))).1).kind), .v .pl (ints (((rAltR (tkR a sets S) (S.length + 1) (rSeq (tkR a sets S) (S.length + 1) (rPost (tkR a sets S) (S.length + 1) n))) (s.adv (tkR a sets S))).1).syms), .v .pl (.sl (Rx.avs (((rAltR (tkR a sets S) (S.length + 1) (rSeq (tkR a sets S) (S.length + 1) (rPost (tkR a sets S) (S.length + 1) n))) (s.adv (tkR a sets S))).1).kids))]), (1000001, .box 79 [.v .pl (sbytes S), .v .pl (letters a), .v .pl (setsA sets), .v .pl (int ((rClose (tkR a sets S) ((rAltR (tkR a sets S) (S.length + 1) (rSeq (tkR a sets S) (S.length + 1) (rPost (tkR a sets S) (S.length + 1) n))) (s.adv (tkR a sets S))).2)).k), .v .pl (int ((rClose (tkR a sets S) ((rAltR (tkR a sets S) (S.length + 1) (rSeq (tkR a sets S) (S.length + 1) (rPost (tkR a sets S) (S.length + 1) n))) (s.adv (tkR a sets S))).2)).bad)])]⟩) ?_ ?_
     ·skip
      refine xA tb hM0 8 [0,2,3,4,5,36] [2,4,1000001] rfl ?_
      refine spO 36 rfl ?_ ?_ <;> intro h2' <;> try simp only [dq] at h2'
      ·skip
       refine xA tb hM0 1 [0,2,4,5,36,37] [2,4,1000001] rfl ?_
       refine oP rfl (pure_neq rfl rfl rfl) ?_
       refine xA tb hM0 3 [0,2,4,5,39] [2,4,1000001] rfl ?_
       refine spC 39 rfl ?_ ?_ <;> intro h3 <;> try simp only [dq] at h3
       ·skip
        refine xA tb hM0 11 [0,2,4,5] [2,4,1000001] rfl ?_
        refine cx ?_
        first
          | (have e9 : (rClose (tkR a sets S) ((rAltR (tkR a sets S) (S.length + 1) (rSeq (tkR a sets S) (S.length + 1) (rPost (tkR a sets S) (S.length + 1) n))) (s.adv (tkR a sets S))).2) = ⟨((rAltR (tkR a sets S) (S.length + 1) (rSeq (tkR a sets S) (S.length + 1) (rPost (tkR a sets S) (S.length + 1) n))) (s.adv (tkR a sets S))).2.k, ((rAltR (tkR a sets S) (S.length + 1) (rSeq (tkR a sets S) (S.length + 1) (rPost (tkR a sets S) (S.length + 1) n))) (s.adv (tkR a sets S))).2.k⟩ := if_pos ⟨by omega, by unfold RS.hd; omega⟩
             rw [e9]
             done)
          | (rw [show (rClose (tkR a sets S) ((rAltR (tkR a sets S) (S.length + 1) (rSeq (tkR a sets S) (S.length + 1) (rPost (tkR a sets S) (S.length + 1) n))) (s.adv (tkR a sets S))).2) = ((rAltR (tkR a sets S) (S.length + 1) (rSeq (tkR a sets S) (S.length + 1) (rPost (tkR a sets S) (S.length + 1) n))) (s.adv (tkR a sets S))).2 from if_neg (fun q => by have q2 := q.2; unfold RS.hd at q2; omega)]; first | done | rfl)
       ·skip
        refine xA tb hM0 2 [0,2,4,5] [2,4,1000001] rfl ?_
        refine cx ?_
        first
          | (have e9 : (rClose (tkR a sets S) ((rAltR (tkR a sets S) (S.length + 1) (rSeq (tkR a sets S) (S.length + 1) (rPost (tkR a sets S) (S.length + 1) n))) (s.adv (tkR a sets S))).2) = ⟨((rAltR (tkR a sets S) (S.length + 1) (rSeq (tkR a sets S) (S.length + 1) (rPost (tkR a sets S) (S.length + 1) n))) (s.adv (tkR a sets S))).2.k, ((rAltR (tkR a sets S) (S.length + 1) (rSeq (tkR a sets S) (S.length + 1) (rPost (tkR a sets S) (S.length + 1) n))) (s.adv (tkR a sets S))).2.k⟩ := if_pos ⟨by omega, by unfold RS.hd; omega⟩
             rw [e9]
             done)
          | (rw [show (rClose (tkR a sets S) ((rAltR (tkR a sets S) (S.length + 1) (rSeq (tkR a sets S) (S.length + 1) (rPost (tkR a sets S) (S.length + 1) n))) (s.adv (tkR a sets S))).2) = ((rAltR (tkR a sets S) (S.length + 1) (rSeq (tkR a sets S) (S.length + 1) (rPost (tkR a sets S) (S.length + 1) n))) (s.adv (tkR a sets S))).2 from if_neg (fun q => by have q2 := q.2; unfold RS.hd at q2; omega)]; first | done | rfl)
      ·skip
       refine xA tb hM0 7 [0,2,4,5] [2,4,1000001] rfl ?_
       refine cx ?_
       first
         | (have e9 : (rClose (tkR a sets S) ((rAltR (tkR a sets S) (S.length + 1) (rSeq (tkR a sets S) (S.length + 1) (rPost (tkR a sets S) (S.length + 1) n))) (s.adv (tkR a sets S))).2) = ⟨((rAltR (tkR a sets S) (S.length + 1) (rSeq (tkR a sets S) (S.length + 1) (rPost (tkR a sets S) (S.length + 1) n))) (s.adv (tkR a sets S))).2.k, ((rAltR (tkR a sets S) (S.length + 1) (rSeq (tkR a sets S) (S.length + 1) (rPost (tkR a sets S) (S.length + 1) n))) (s.adv (tkR a sets S))).2.k⟩ := if_pos ⟨by omega, by unfold RS.hd; omega⟩
            rw [e9]
            done)
         | (rw [show (rClose (tkR a sets S) ((rAltR (tkR a sets S) (S.length + 1) (rSeq (tkR a sets S) (S.length + 1) (rPost (tkR a sets S) (S.length + 1) n))) (s.adv (tkR a sets S))).2) = ((rAltR (tkR a sets S) (S.length + 1) (rSeq (tkR a sets S) (S.length + 1) (rPost (tkR a sets S) (S.length + 1) n))) (s.adv (tkR a sets S))).2 from if_neg (fun q => by have q2 := q.2; unfold RS.hd at q2; omega)]; first | done | rfl)
     ·rintro zs ⟨rfl⟩
      have hck := rClose_k (tk := (tkR a sets S)) ((rAltR (tkR a sets S) (S.length + 1) (rSeq (tkR a sets S) (S.length + 1) (rPost (tkR a sets S) (S.length + 1) n))) (s.adv (tkR a sets S))).2
      have hcb := fun h => rClose_bad (tk := (tkR a sets S)) (s := ((rAltR (tkR a sets S) (S.length + 1) (rSeq (tkR a sets S) (S.length + 1) (rPost (tkR a sets S) (S.length + 1) n))) (s.adv (tkR a sets S))).2) h
      refine xA tb hM0 10 [0,2,4,5,51] [2,4,1000001] rfl ?_
      refine spC 51 rfl ?_ ?_ <;> intro h4 <;> try simp only [dq] at h4
      ·skip
       refine xA tb hM0 10 [] [] rfl ?_
       refine endOC_ret (o1 := [(1000001, _)]) rfl ⟨rfl, trivial⟩ ?_
       rw [rPost_40e (by unfold RS.hd; omega) (by omega)]; exact ⟨rfl, rfl⟩
      ·skip
       refine xA tb hM0 10 [0,2,4,53,57,58] [2,4,1000001] rfl ?_
       refine oP rfl (pure_addi rfl rfl rfl (by have := hT.le _ g2; omega)) ?_
       refine xA tb hM0 4 [0,2,4] [2,4,1000001] rfl ?_
       refine cx ?_
       have h40 : s.hd (tkR a sets S) = 40 := by unfold RS.hd; omega
       obtain ⟨e2, e3, h41⟩ := hcb (by omega)
       obtain ⟨k1, k2⟩ := hT.adv g2 (by omega)
       exact ⟨(rClose (tkR a sets S) ((rAltR (tkR a sets S) (S.length + 1) (rSeq (tkR a sets S) (S.length + 1) (rPost (tkR a sets S) (S.length + 1) n))) (s.adv (tkR a sets S))).2).adv (tkR a sets S), ((rAltR (tkR a sets S) (S.length + 1) (rSeq (tkR a sets S) (S.length + 1) (rPost (tkR a sets S) (S.length + 1) n))) (s.adv (tkR a sets S))).1, ⟨by rw [e2]; exact k2, by rw [e2]; omega⟩, (rPost_40 h40 (by omega)).symm, by rw [e2]; rfl⟩
    ·skip
     refine xA tb hM0 2 [0,2,4] [2,4,1000001] rfl ?_
     refine cx ?_
     exact ⟨(s.adv (tkR a sets S)), ((tkR a sets S) s.k).2.1, ⟨f2, f1⟩, (rPost_x (by unfold RS.hd; omega)).symm, rfl⟩
   ·rintro zs ⟨z, x, hC11_0, hC11_1, rfl⟩
    refine xA tb hM0 3 [0,2,4,63] [2,4,1000001] rfl ?_
    refine oS rfl (step_callO [(1000001, 1000001)] rfl rfl rfl rfl rfl rfl rfl (token_call hS ha hset hsy (k := (z).k) (bad := (z).bad) (by omega)) ⟨.inl rfl, trivial⟩ ⟨rfl, trivial⟩ rfl rfl rfl rfl rfl hM0) rfl ?_
    refine xA tb hM0 10 [0,2,3,4,5] [2,4,1000001] rfl ?_
    refine lp (fun zm zs => ∃ (z : RS) (m : Nat) (x : Rx), zm = S.length - z.k ∧ (z.k ≤ S.length ∧ S.length < z.k + m) ∧ (rStarLp (tkR a sets S) m z x = rPost (tkR a sets S) (S.length + 1) (n + 1) s) ∧ zs = ⟨99, [(0, .pbox 1000001 0), (2, .pbox 2 0), (3, .v .pl (.sc (.int .u8 ((tkR a sets S) (z).k).1))), (4, .pbox 4 0), (5, .v .pl (int (((tkR a sets S) (z).k).2.2 : Int)))], [(2, .box 25 [.v .pl (.sc (.int .i64 0)), .v .pl (.sc (.slice none 0 0)), .v .pl (.sc (.slice none 0 0))]), (4, .box 25 [.v .pl (int (x).kind), .v .pl (ints (x).syms), .v .pl (.sl (Rx.avs (x).kids))]), (1000001, .box 79 [.v .pl (sbytes S), .v .pl (letters a), .v .pl (setsA sets), .v .pl (int (z).k), .v .pl (int (z).bad)])]⟩) ?_ ?_
    ·exact ⟨_, z, (S.length + 1), x, rfl, ⟨hC11_0.1, by omega⟩, hC11_1, rfl⟩
    ·rintro zm zs ⟨z, m, x, rfl, hL1_0, hL1_1, rfl⟩
     obtain ⟨hz1, hz2⟩ := hL1_0
     have hadv := fun h => hT.adv hz1 h
     refine xA tb hM0 4 [0,2,3,4,5,68] [2,4,1000001] rfl ?_
     refine oP rfl (pure_eql rfl rfl rfl) ?_
     refine xA tb hM0 1 [0,2,3,4,5,70] [2,4,1000001] rfl ?_
     refine spO 70 rfl ?_ ?_ <;> intro h5' <;> try simp only [dq] at h5'
     ·skip
      refine xA tb hM0 17 [0,2,3,4,74,78,79] [2,4,1000001] rfl ?_
      refine oP rfl (pure_addi rfl rfl rfl (by have := hT.le _ hz1; omega)) ?_
      refine xA tb hM0 9 [0,2,4,83] [2,4,1000001] rfl ?_
      refine oP rfl (pure_eql rfl rfl rfl) ?_
      refine xA tb hM0 2 [0,2,4,84] [2,4,1000001] rfl ?_
      refine spC 84 rfl ?_ ?_ <;> intro h6 <;> try simp only [dq] at h6
      ·skip
       refine xA tb hM0 3 [0,2,4,85] [2,4,1000001] rfl ?_
       refine oP rfl (pure_lit rfl Tryz.underlying23 el25 rfl rfl rfl rfl hM0) ?_
       refine oP rfl (pure_callN rfl rfl rfl rfl (of_call 5 [x]) hM0) ?_
       refine xA tb hM0 5 [0,2,4,93] [2,4,1000001] rfl ?_
       refine oS rfl (step_callO [(1000001, 1000001)] rfl rfl rfl rfl rfl rfl rfl (token_call hS ha hset hsy (k := (z.adv (tkR a sets S)).k) (bad := (z.adv (tkR a sets S)).bad) (by have := hadv (by unfold RS.hd; omega); omega)) ⟨.inl rfl, trivial⟩ ⟨rfl, trivial⟩ rfl rfl rfl rfl rfl hM0) rfl ?_
       refine xA tb hM0 8 [0,2,3,4,5] [2,4,1000001] rfl ?_
       refine nx ?_
       obtain ⟨a1, a2⟩ := hadv (by unfold RS.hd; omega)
       obtain ⟨m, rfl⟩ : ∃ m', m = m' + 1 := ⟨m - 1, by omega⟩
       exact ⟨_, ⟨z.adv (tkR a sets S), m, .mk 5 [] [x], rfl, ⟨a2, by omega⟩, by rw [← hL1_1, rStarLp_star (by unfold RS.hd; omega)], rfl⟩, by omega⟩
      ·skip
       refine xA tb hM0 2 [0,2,4] [2,4,1000001] rfl ?_
       refine oP rfl (pure_norm (pure_build rfl pl25 ze25 rfl rfl rfl) rfl) ?_
       refine xA tb hM0 1 [0,2,4,88,89] [2,4,1000001] rfl ?_
       refine oP rfl (pure_lit rfl Tryz.underlying23 el25 rfl rfl rfl rfl hM0) ?_
       refine oP rfl (pure_callN rfl rfl rfl rfl (of_call 4 [emptyRx, x]) hM0) ?_
       refine xA tb hM0 5 [0,2,4,93] [2,4,1000001] rfl ?_
       refine oS rfl (step_callO [(1000001, 1000001)] rfl rfl rfl rfl rfl rfl rfl (token_call hS ha hset hsy (k := (z.adv (tkR a sets S)).k) (bad := (z.adv (tkR a sets S)).bad) (by have := hadv (by unfold RS.hd; omega); omega)) ⟨.inl rfl, trivial⟩ ⟨rfl, trivial⟩ rfl rfl rfl rfl rfl hM0) rfl ?_
       refine xA tb hM0 8 [0,2,3,4,5] [2,4,1000001] rfl ?_
       refine nx ?_
       first
         | omega
         | (obtain ⟨a1, a2⟩ := hadv (by unfold RS.hd; omega)
            obtain ⟨m, rfl⟩ : ∃ m', m = m' + 1 := ⟨m - 1, by omega⟩
            exact ⟨_, ⟨z.adv (tkR a sets S), m, .mk 4 [] [emptyRx, x], rfl, ⟨a2, by omega⟩, by rw [← hL1_1, rStarLp_opt (by unfold RS.hd; omega)], rfl⟩, by omega⟩)
     ·skip
      refine xA tb hM0 1 [0,2,3,4,5,70,71] [2,4,1000001] rfl ?_
      refine oP rfl (pure_eql rfl rfl rfl) ?_
      refine xA tb hM0 3 [0,2,3,4,5,73] [2,4,1000001] rfl ?_
      refine spC 73 rfl ?_ ?_ <;> intro h7 <;> try simp only [dq] at h7
      ·skip
       refine xA tb hM0 12 [0,2,3,4,74,78,79] [2,4,1000001] rfl ?_
       refine oP rfl (pure_addi rfl rfl rfl (by have := hT.le _ hz1; omega)) ?_
       refine xA tb hM0 9 [0,2,4,83] [2,4,1000001] rfl ?_
       refine oP rfl (pure_eql rfl rfl rfl) ?_
       refine xA tb hM0 2 [0,2,4,84] [2,4,1000001] rfl ?_
       refine spC 84 rfl ?_ ?_ <;> intro h8 <;> try simp only [dq] at h8
       ·skip
        refine xA tb hM0 3 [0,2,4,85] [2,4,1000001] rfl ?_
        refine oP rfl (pure_lit rfl Tryz.underlying23 el25 rfl rfl rfl rfl hM0) ?_
        refine oP rfl (pure_callN rfl rfl rfl rfl (of_call 5 [x]) hM0) ?_
        refine xA tb hM0 5 [0,2,4,93] [2,4,1000001] rfl ?_
        refine oS rfl (step_callO [(1000001, 1000001)] rfl rfl rfl rfl rfl rfl rfl (token_call hS ha hset hsy (k := (z.adv (tkR a sets S)).k) (bad := (z.adv (tkR a sets S)).bad) (by have := hadv (by unfold RS.hd; omega); omega)) ⟨.inl rfl, trivial⟩ ⟨rfl, trivial⟩ rfl rfl rfl rfl rfl hM0) rfl ?_
        refine xA tb hM0 8 [0,2,3,4,5] [2,4,1000001] rfl ?_
        refine nx ?_
        obtain ⟨a1, a2⟩ := hadv (by unfold RS.hd; omega)
        obtain ⟨m, rfl⟩ : ∃ m', m = m' + 1 := ⟨m - 1, by omega⟩
        exact ⟨_, ⟨z.adv (tkR a sets S), m, .mk 5 [] [x], rfl, ⟨a2, by omega⟩, by rw [← hL1_1, rStarLp_star (by unfold RS.hd; omega)], rfl⟩, by omega⟩
       ·skip
        refine xA tb hM0 2 [0,2,4] [2,4,1000001] rfl ?_
        refine oP rfl (pure_norm (pure_build rfl pl25 ze25 rfl rfl rfl) rfl) ?_
        refine xA tb hM0 1 [0,2,4,88,89] [2,4,1000001] rfl ?_
        refine oP rfl (pure_lit rfl Tryz.underlying23 el25 rfl rfl rfl rfl hM0) ?_
        refine oP rfl (pure_callN rfl rfl rfl rfl (of_call 4 [emptyRx, x]) hM0) ?_
        refine xA tb hM0 5 [0,2,4,93] [2,4,1000001] rfl ?_
        refine oS rfl (step_callO [(1000001, 1000001)] rfl rfl rfl rfl rfl rfl rfl (token_call hS ha hset hsy (k := (z.adv (tkR a sets S)).k) (bad := (z.adv (tkR a sets S)).bad) (by have := hadv (by unfold RS.hd; omega); omega)) ⟨.inl rfl, trivial⟩ ⟨rfl, trivial⟩ rfl rfl rfl rfl rfl hM0) rfl ?_
        refine xA tb hM0 8 [0,2,3,4,5] [2,4,1000001] rfl ?_
        refine nx ?_
        first
          | omega
          | (obtain ⟨a1, a2⟩ := hadv (by unfold RS.hd; omega)
             obtain ⟨m, rfl⟩ : ∃ m', m = m' + 1 := ⟨m - 1, by omega⟩
             exact ⟨_, ⟨z.adv (tkR a sets S), m, .mk 4 [] [emptyRx, x], rfl, ⟨a2, by omega⟩, by rw [← hL1_1, rStarLp_opt (by unfold RS.hd; omega)], rfl⟩, by omega⟩)
      ·skip
       refine xA tb hM0 13 [] [] rfl ?_
       refine endOC_ret (o1 := [(1000001, _)]) rfl ⟨rfl, trivial⟩ ?_
       rw [← hL1_1, rStarLp_stop (by unfold RS.hd; omega) (by unfold RS.hd; omega)]; exact ⟨rfl, rfl⟩
theorem rpost_calls (hS : S.length ≤ 1024) (ha : validA a = true) (hset : sets.length ≤ 9223372036854775807) (hsy : ∀ x ∈ sets, x.syms.length ≤ 9223372036854775807) : ∀ n, RPostC S a sets n
  | 0 => fun s h1 h2 hb hk => by
    have := (tkR_ok (sets := sets) (S := S) (validA_bd ha)).adv h1 (by omega)
    omega
  | n + 1 => rppost_call hS ha hset hsy (rpalt_call hS ha hset hsy (rpseq_call hS ha hset hsy (rpost_calls hS ha hset hsy n)))
theorem ralt_calls (hS : S.length ≤ 1024) (ha : validA a = true) (hset : sets.length ≤ 9223372036854775807) (hsy : ∀ x ∈ sets, x.syms.length ≤ 9223372036854775807) (n : Nat) : RAltC S a sets n := rpalt_call hS ha hset hsy (rpseq_call hS ha hset hsy (rpost_calls hS ha hset hsy n))
theorem ralt_top (hS : S.length ≤ 1024) (ha : validA a = true) (hset : sets.length ≤ 9223372036854775807) (hsy : ∀ x ∈ sets, x.syms.length ≤ 9223372036854775807) :
    CallO Tryz.prog 63 [.pbox 1000001 0] (xO S a sets 0 (-1)) (.v .pl (rx (rTop a sets S).1)) (xO S a sets (rTop a sets S).2.k (rTop a sets S).2.bad) :=
  ralt_calls hS ha hset hsy S.length ⟨0, -1⟩ (Nat.zero_le _) (by show S.length ≤ 0 + S.length; omega) (by show (-1 : Int) < 0; decide)
end
end Go.Proofs.YtgdehkimfmfofaaGreat

