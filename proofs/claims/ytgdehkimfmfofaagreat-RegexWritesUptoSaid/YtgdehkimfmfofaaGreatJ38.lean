/-
  Contracts: the pattern that the reference prints.
-/
import Derived.Test.YtgdehkimfmfofaaGreatJ36
import Derived.Test.YtgdehkimfmfofaaGreatJ37
set_option linter.unusedVariables false
set_option linter.unusedSimpArgs false
namespace Go.Proofs.YtgdehkimfmfofaaGreat
open Go.Am Go.Wb Go.Wc
set_option linter.unusedVariables false
set_option linter.unusedSimpArgs false
theorem fn69 : Fn1 Tryz.prog 69 Tryz.f69.ntmps 4 (Tryz.f69.body.getD .skip) := ⟨Tryz.f69, Tryz.func69, rfl, rfl, rfl, by kernel_rfl⟩
set_option maxRecDepth 100000 in
set_option maxHeartbeats 8000000 in
theorem rtext_call {a : List Letter} (ha : a.length ≤ 1099511627776) (hA : validA a = true) : ∀ (m : Nat) (r : Rx), r.size ≤ m → m ≤ 1099511627776 → Nf r → knownR a r = true → CallW Tryz.prog 69 [rx r, letters a] (.p (sbytes (textR a r))) := by
  refine fun m => Nat.strongRecOn m fun m ih => ?_
  intro r hr hmm hnf hkn
  have hT := validA_txt hA
  have hl := kids_len r
  have hsl := syms_len r
  have hnk : ∀ i, i < r.kids.length → Nf (r.kids.getD i default) := fun i h => hnf.kids (kid_mem h)
  have hkk : ∀ i, i < r.kids.length → knownR a (r.kids.getD i default) = true := fun i h => known_kids hkn _ (kid_mem h)
  have hkl : ∀ i, i < r.kids.length → (r.kids.getD i default).size < r.size := fun i h => kid_lt h
  have kb : ∀ i, i < r.kids.length → CallW Tryz.prog 69 [rx (r.kids.getD i default), letters a] (.p (sbytes (textR a (r.kids.getD i default)))) := fun i h =>
    ih _ (Nat.lt_of_lt_of_le (hkl i h) hr) _ (Nat.le_refl _) (by have := hkl i h; omega) (hnk i h) (hkk i h)
  have h5 : ∀ i, i < r.kids.length → (r.kids.getD i default).kind = 5 → 0 < (r.kids.getD i default).kids.length := fun i h k => by obtain ⟨y, e, _⟩ := (hnk i h).k5 k; rw [e]; exact Nat.one_pos
  have hnk2 : ∀ i, i < r.kids.length → 0 < (r.kids.getD i default).kids.length → Nf ((r.kids.getD i default).kids.getD 0 default) := fun i h h0 => (hnk i h).kids (kid_mem h0)
  have hkl2 : ∀ i, i < r.kids.length → 0 < (r.kids.getD i default).kids.length → ((r.kids.getD i default).kids.getD 0 default).size < r.size := fun i h h0 => Nat.lt_trans (kid_lt h0) (hkl i h)
  have kb2 : ∀ i, i < r.kids.length → 0 < (r.kids.getD i default).kids.length → CallW Tryz.prog 69 [rx ((r.kids.getD i default).kids.getD 0 default), letters a] (.p (sbytes (textR a ((r.kids.getD i default).kids.getD 0 default)))) := fun i h h0 =>
    ih _ (Nat.lt_of_lt_of_le (hkl2 i h h0) hr) _ (Nat.le_refl _) (by have := hkl2 i h h0; omega) (hnk2 i h h0) (known_kids (hkk i h) _ (kid_mem h0))
  have htl := fun r => text_len hT r
  have hal := fun i (h : i ≤ r.kids.length) => accT_bd (a := a) hT hnf h
  have hsep := fun i => sepT_len a r i
  have hpc := fun i => pcT_len hT r i
  have hkind := hnf.kinds
  have h1k : r.kind = 1 → r.kids.length = 0 := fun k => by rw [hnf.k1 k]; rfl
  have h2s : r.kind = 2 → 0 < r.syms.length ∧ ∀ z ∈ r.syms, 0 ≤ z ∧ (z < a.length ∨ z = 63 ∨ z = 62) := fun k => ⟨(setOk_iff.1 (hnf.k2 k).2).1, nf_syms hnf hkn⟩
  rw [rx_eq r]
  refine callW_of_codeS fn69 (Nat.le_of_ble_eq_true rfl) fun w0 M0 hM0 hdr => ?_
  refine xC tb hM0 2 [0,1] [] rfl ?_
  refine oP rfl (pure_box rfl rfl rfl hM0) ?_
  refine xA tb hM0 11 [1,2,12] [] rfl ?_
  refine spC 12 rfl ?_ ?_ <;> intro h1 <;> try simp only [dq] at h1
  ·skip
   refine xA tb hM0 8 [] [] rfl ?_
   refine end_ret rfl ?_
   first | (rw [textR_0 (by omega)]; first | done | rfl) | (rw [textR_2 (by omega)]; first | done | rfl) | (rw [accT_end (i := i) hnf (by omega) (by omega) (by omega) (by omega)]; first | (rw [if_pos (by omega)]; first | done | rfl) | (rw [if_neg (by omega)]; first | done | rfl))
  ·skip
   refine xA tb hM0 11 [1,2,15] [] rfl ?_
   refine spC 15 rfl ?_ ?_ <;> intro h2 <;> try simp only [dq] at h2
   ·skip
    refine xA tb hM0 6 [17,18] [] rfl ?_
    refine oP rfl (pure_callW hdr rfl rfl rfl (rsymbols_call ha hT (by omega) (h2s (by omega)).1 (h2s (by omega)).2) hM0) ?_
    refine xA tb hM0 5 [] [] rfl ?_
    refine end_ret rfl ?_
    first | (rw [textR_0 (by omega)]; first | done | rfl) | (rw [textR_2 (by omega)]; first | done | rfl) | (rw [accT_end (i := i) hnf (by omega) (by omega) (by omega) (by omega)]; first | (rw [if_pos (by omega)]; first | done | rfl) | (rw [if_neg (by omega)]; first | done | rfl))
   ·skip
    refine xA tb hM0 15 [1,2,5,6] [] rfl ?_
    refine lp (fun zm zs => ∃ i : Nat, zm = r.kids.length - i ∧ (i ≤ r.kids.length) ∧ zs = ⟨130, [(1, .v .pl (letters a)), (2, .v .pl (rpc r)), (5, .v .pl (sbytes (accT a r i))), (6, .v .pl (int i))], []⟩) ?_ ?_
    ·exact ⟨_, 0, rfl, Nat.zero_le _, by rw [accT_0]; rfl⟩
    ·rintro zm zs ⟨i, rfl, hL1_0, rfl⟩
     refine xA tb hM0 6 [1,2,5,6,20,22] [] rfl ?_
     refine oP rfl (pure_lenm rfl Tryz.underlying23 rfl) ?_
     refine xA tb hM0 3 [1,2,5,6,24] [] rfl ?_
     refine spC 24 rfl ?_ ?_ <;> intro h3 <;> try simp only [dq] at h3
     ·skip
      refine xA tb hM0 10 [1,2,5,6,28,29] [] rfl ?_
      refine oP rfl (pure_ix rfl Tryz.underlying23 sz25 rfl rfl (by omega) (fun _ => rfl)) ?_
      refine xA tb hM0 9 [1,2,5,6,7,32,33] [7] rfl ?_
      refine oP rfl (pure_callW hdr rfl rfl rfl (kb i (by omega)) hM0) ?_
      refine xA tb hM0 3 [1,2,5,6,7,8] [7] rfl ?_
      refine ct (fun zs => zs = ⟨130, [(1, .v .pl (letters a)), (2, .v .pl (rpc r)), (5, .v .pl (sbytes (sepT a r i))), (6, .v .pl (int i)), (7, .pbox 7 0), (8, .v .pl (sbytes (textR a (r.kids.getD i default))))], [(7, .box 25 [.v .pl (int ((r.kids.getD i default)).kind), .v .pl (ints ((r.kids.getD i default)).syms), .v .pl (.sl (Rx.avs ((r.kids.getD i default)).kids))])]⟩) ?_ ?_
      ·skip
       refine xA tb hM0 6 [1,2,5,6,7,8,38] [7] rfl ?_
       refine spO 38 rfl ?_ ?_ <;> intro h4' <;> try simp only [dq] at h4'
       ·skip
        refine xA tb hM0 5 [1,2,5,6,7,8,41] [7] rfl ?_
        refine spC 41 rfl ?_ ?_ <;> intro h5 <;> try simp only [dq] at h5
        ·skip
         refine xA tb hM0 3 [1,2,6,7,8,42] [7] rfl ?_
         refine oP rfl (pure_sadd rfl rfl rfl (by have := hal i (by omega); have := hsep i; have := hpc i; have := hkl i (by omega); have := htl (r.kids.getD i default); (try simp only [List.length_append, List.length_cons, List.length_nil]); omega)) ?_
         refine xA tb hM0 2 [1,2,5,6,7,8] [7] rfl ?_
         refine cx ?_
         first | (rw [sepT_y (by omega) (by omega)]; first | done | rfl) | (rw [sepT_n (by omega)]; first | done | rfl)
        ·skip
         refine xA tb hM0 2 [1,2,5,6,7,8] [7] rfl ?_
         refine cx ?_
         first | (rw [sepT_y (by omega) (by omega)]; first | done | rfl) | (rw [sepT_n (by omega)]; first | done | rfl)
       ·skip
        refine xA tb hM0 7 [1,2,5,6,7,8] [7] rfl ?_
        refine cx ?_
        first | (rw [sepT_y (by omega) (by omega)]; first | done | rfl) | (rw [sepT_n (by omega)]; first | done | rfl)
      ·rintro zs ⟨rfl⟩
       refine xA tb hM0 6 [1,2,5,6,7,8,47] [7] rfl ?_
       refine spO 47 rfl ?_ ?_ <;> intro h6' <;> try simp only [dq] at h6'
       ·skip
        refine xA tb hM0 12 [1,2,5,6,7,8,9,51] [7] rfl ?_
        refine spC 51 rfl ?_ ?_ <;> intro h7 <;> try simp only [dq] at h7
        ·skip
         refine xA tb hM0 5 [1,2,5,6,7,8,53,54] [7] rfl ?_
         refine oP rfl (pure_subi rfl rfl rfl (by omega)) ?_
         refine oP rfl (pure_ix rfl Tryz.underlying23 sz25 rfl rfl (by omega) (fun _ => rfl)) ?_
         refine xA tb hM0 2 [1,2,5,6,7,8,57,58] [7] rfl ?_
         refine oP rfl (pure_call rfl rfl rfl (rletter_call) hM0) ?_
         refine xA tb hM0 3 [1,2,5,6,7,8,9] [7] rfl ?_
         refine ct (fun zs => zs = ⟨130, [(1, .v .pl (letters a)), (2, .v .pl (rpc r)), (5, .v .pl (sbytes (sepT a r i))), (6, .v .pl (int i)), (7, .pbox 7 0), (8, .v .pl (sbytes (textR a (r.kids.getD i default)))), (9, .v .pl (bool (aptB a r i)))], [(7, .box 25 [.v .pl (int ((r.kids.getD i default)).kind), .v .pl (ints ((r.kids.getD i default)).syms), .v .pl (.sl (Rx.avs ((r.kids.getD i default)).kids))])]⟩) ?_ ?_
         ·skip
          refine xA tb hM0 5 [1,2,5,6,7,8,9,60] [7] rfl ?_
          refine spC 60 rfl ?_ ?_ <;> intro h8 <;> try simp only [dq] at h8
          ·skip
           refine xA tb hM0 5 [1,2,5,6,7,8,62,63] [7] rfl ?_
           refine oP rfl (pure_subi rfl rfl rfl (by omega)) ?_
           refine oP rfl (pure_ix rfl Tryz.underlying23 sz25 rfl rfl (by omega) (fun _ => rfl)) ?_
           refine xA tb hM0 2 [1,2,5,6,7,8,67] [7] rfl ?_
           refine oP rfl (pure_ix rfl Tryz.underlying22 sz3 rfl rfl (by first | (exfalso; omega) | (have h := oneB_t (a := a) (hnk ((i : Int) - 1).toNat (by omega)) (by assumption); have h3 := h.2.2.1; omega)) (fun _ => rfl)) ?_
           refine xA tb hM0 2 [1,2,5,6,7,8,69,70] [7] rfl ?_
           refine oP rfl (pure_call rfl rfl rfl (rlonger_call ha (by first | (exfalso; omega) | (have h := oneB_t (a := a) (hnk ((i : Int) - 1).toNat (by omega)) (by assumption); have h1 := h.1; have h2 := h.2.1; have h3 := h.2.2.2; (try simp only [Int.toNat_zero]); omega))) hM0) ?_
           refine xA tb hM0 2 [1,2,5,6,7,8,9] [7] rfl ?_
           refine cx ?_
           have ei : ((i : Int) - 1).toNat = i - 1 := by omega
           first
             | (exfalso; omega)
             | (rw [aptB_n (by omega)]; first | done | rfl | (rw [decide_eq_false (show ¬ (0 : Int) < (i : Int) by omega)]; first | done | rfl) | (rw [decide_eq_false (show ¬ (i : Int) > 0 by omega)]; first | done | rfl))
             | (rw [aptB_f (by omega) (by omega) (hnk _ (by omega)) (by rw [← ei]; assumption), show oneB a (r.kids.getD ((i : Int) - 1).toNat default) = false by assumption]; first | done | rfl)
             | (rw [aptB_t hA (by omega) (by omega) (hnk _ (by omega)) (by rw [← ei]; assumption), ← ei]; first | done | rfl)
          ·skip
           refine xA tb hM0 2 [1,2,5,6,7,8,9] [7] rfl ?_
           refine cx ?_
           have ei : ((i : Int) - 1).toNat = i - 1 := by omega
           first
             | (exfalso; omega)
             | (rw [aptB_n (by omega)]; first | done | rfl | (rw [decide_eq_false (show ¬ (0 : Int) < (i : Int) by omega)]; first | done | rfl) | (rw [decide_eq_false (show ¬ (i : Int) > 0 by omega)]; first | done | rfl))
             | (rw [aptB_f (by omega) (by omega) (hnk _ (by omega)) (by rw [← ei]; assumption), show oneB a (r.kids.getD ((i : Int) - 1).toNat default) = false by assumption]; first | done | rfl)
             | (rw [aptB_t hA (by omega) (by omega) (hnk _ (by omega)) (by rw [← ei]; assumption), ← ei]; first | done | rfl)
         ·rintro zs ⟨rfl⟩
          refine ct (fun zs => zs = ⟨130, [(1, .v .pl (letters a)), (2, .v .pl (rpc r)), (5, .v .pl (sbytes (sepT a r i))), (6, .v .pl (int i)), (8, .v .pl (sbytes (pcT a r i)))], []⟩) ?_ ?_
          ·skip
           refine xA tb hM0 4 [1,2,5,6,7,8,9,73] [7] rfl ?_
           refine spO 73 rfl ?_ ?_ <;> intro h9' <;> try simp only [dq] at h9'
           ·skip
            refine xA tb hM0 6 [1,2,5,6,7,8,9,77] [7] rfl ?_
            refine spC 77 rfl ?_ ?_ <;> intro h10 <;> try simp only [dq] at h10
            ·skip
             refine xA tb hM0 4 [1,2,5,6,7,8,78] [7] rfl ?_
             refine oP rfl (pure_avs (pure_load_box rfl ag23 rfl rfl rfl)) ?_
             refine oP rfl (pure_ix rfl Tryz.underlying23 sz25 rfl rfl (by have := h5 i (by omega) (by omega); omega) (fun _ => rfl)) ?_
             refine xA tb hM0 2 [1,2,5,6,7,8,81,82] [7] rfl ?_
             refine oP rfl (pure_call rfl rfl rfl (rletter_call) hM0) ?_
             refine xA tb hM0 2 [1,2,5,6,7,8,83] [7] rfl ?_
             refine spC 83 rfl ?_ ?_ <;> intro h11 <;> try simp only [dq] at h11
             ·skip
              refine xA tb hM0 3 [1,2,5,6,84] [7] rfl ?_
              refine oP rfl (pure_avs (pure_load_box rfl ag23 rfl rfl rfl)) ?_
              refine oP rfl (pure_ix rfl Tryz.underlying23 sz25 rfl rfl (by have := h5 i (by omega) (by omega); omega) (fun _ => rfl)) ?_
              refine xA tb hM0 2 [1,2,5,6,87,88] [] rfl ?_
              refine oP rfl (pure_callW hdr rfl rfl rfl (kb2 i (by omega) (h5 i (by omega) (by omega))) hM0) ?_
              refine oP rfl (pure_sadd rfl rfl rfl (by have := hkl2 i (by omega) (h5 i (by omega) (by omega)); have := htl ((r.kids.getD i default).kids.getD 0 default); (try simp only [List.length_append, List.length_cons, List.length_nil]); omega)) ?_
              refine xA tb hM0 0 [1,2,5,6,90] [] rfl ?_
              refine oP rfl (pure_sadd rfl rfl rfl (by have := hkl2 i (by omega) (h5 i (by omega) (by omega)); have := htl ((r.kids.getD i default).kids.getD 0 default); (try simp only [List.length_append, List.length_cons, List.length_nil]); omega)) ?_
              refine xA tb hM0 2 [1,2,5,6,8] [] rfl ?_
              refine cx ?_
              try simp only [Int.toNat_zero] at *
              first
                | (rw [pc_star1 (by assumption) (by omega) (h5 i (by omega) (by omega)) (hnk2 i (by omega) (h5 i (by omega) (by omega))) (by assumption)]; first | done | rfl)
                | (rw [pc_star0 (by assumption) (by omega) (hnk2 i (by omega) (h5 i (by omega) (by omega))) (by assumption)]; first | done | rfl)
                | (rw [pc_par1 (by assumption) (hnk i (by omega)) (by assumption)]; first | done | rfl)
                | (rw [pc_other (fun q => by have q1 := q.1; have q2 := q.2; simp_all) (fun q => by have q1 := q.1; have q2 := q.2; first | omega | simp_all) (hnk i (by omega)) (fun _ => by omega)]; first | (rw [if_pos (by omega)]; first | done | rfl) | (rw [if_neg (by omega)]; first | done | rfl))
             ·skip
              refine xA tb hM0 2 [1,2,5,6,8] [] rfl ?_
              refine cx ?_
              try simp only [Int.toNat_zero] at *
              first
                | (rw [pc_star1 (by assumption) (by omega) (h5 i (by omega) (by omega)) (hnk2 i (by omega) (h5 i (by omega) (by omega))) (by assumption)]; first | done | rfl)
                | (rw [pc_star0 (by assumption) (by omega) (hnk2 i (by omega) (h5 i (by omega) (by omega))) (by assumption)]; first | done | rfl)
                | (rw [pc_par1 (by assumption) (hnk i (by omega)) (by assumption)]; first | done | rfl)
                | (rw [pc_other (fun q => by have q1 := q.1; have q2 := q.2; simp_all) (fun q => by have q1 := q.1; have q2 := q.2; first | omega | simp_all) (hnk i (by omega)) (fun _ => by omega)]; first | (rw [if_pos (by omega)]; first | done | rfl) | (rw [if_neg (by omega)]; first | done | rfl))
            ·skip
             refine xA tb hM0 5 [1,2,5,6,7,8,93] [7] rfl ?_
             refine spO 93 rfl ?_ ?_ <;> intro h12' <;> try simp only [dq] at h12'
             ·skip
              refine xA tb hM0 2 [1,2,5,6,7,8,93,94,95] [7] rfl ?_
              refine oP rfl (pure_call rfl rfl rfl (rletter_call) hM0) ?_
              refine xA tb hM0 2 [1,2,5,6,7,8,98] [7] rfl ?_
              refine spO 98 rfl ?_ ?_ <;> intro h13' <;> try simp only [dq] at h13'
              ·skip
               refine xA tb hM0 24 [1,2,5,6,118] [] rfl ?_
               refine oP rfl (pure_sadd rfl rfl rfl (by have := hal i (by omega); have := hsep i; have := hpc i; have := hkl i (by omega); have := htl (r.kids.getD i default); (try simp only [List.length_append, List.length_cons, List.length_nil]); omega)) ?_
               refine oP rfl (pure_sadd rfl rfl rfl (by have := hal i (by omega); have := hsep i; have := hpc i; have := hkl i (by omega); have := htl (r.kids.getD i default); (try simp only [List.length_append, List.length_cons, List.length_nil]); omega)) ?_
               refine xA tb hM0 2 [1,2,5,6,8] [] rfl ?_
               refine cx ?_
               try simp only [Int.toNat_zero] at *
               first
                 | (rw [pc_star1 (by assumption) (by omega) (h5 i (by omega) (by omega)) (hnk2 i (by omega) (h5 i (by omega) (by omega))) (by assumption)]; first | done | rfl)
                 | (rw [pc_star0 (by assumption) (by omega) (hnk2 i (by omega) (h5 i (by omega) (by omega))) (by assumption)]; first | done | rfl)
                 | (rw [pc_par1 (by assumption) (hnk i (by omega)) (by assumption)]; first | done | rfl)
                 | (rw [pc_other (fun q => by have q1 := q.1; have q2 := q.2; simp_all) (fun q => by have q1 := q.1; have q2 := q.2; first | omega | simp_all) (hnk i (by omega)) (fun _ => by omega)]; first | (rw [if_pos (by omega)]; first | done | rfl) | (rw [if_neg (by omega)]; first | done | rfl))
              ·skip
               refine xA tb hM0 4 [1,2,5,6,7,8,98,102] [7] rfl ?_
               refine spO 102 rfl ?_ ?_ <;> intro h14' <;> try simp only [dq] at h14'
               ·skip
                refine xA tb hM0 6 [1,2,5,6,7,8,108] [7] rfl ?_
                refine spO 108 rfl ?_ ?_ <;> intro h15' <;> try simp only [dq] at h15'
                ·skip
                 refine xA tb hM0 14 [1,2,5,6,118] [] rfl ?_
                 refine oP rfl (pure_sadd rfl rfl rfl (by have := hal i (by omega); have := hsep i; have := hpc i; have := hkl i (by omega); have := htl (r.kids.getD i default); (try simp only [List.length_append, List.length_cons, List.length_nil]); omega)) ?_
                 refine oP rfl (pure_sadd rfl rfl rfl (by have := hal i (by omega); have := hsep i; have := hpc i; have := hkl i (by omega); have := htl (r.kids.getD i default); (try simp only [List.length_append, List.length_cons, List.length_nil]); omega)) ?_
                 refine xA tb hM0 2 [1,2,5,6,8] [] rfl ?_
                 refine cx ?_
                 try simp only [Int.toNat_zero] at *
                 first
                   | (rw [pc_star1 (by assumption) (by omega) (h5 i (by omega) (by omega)) (hnk2 i (by omega) (h5 i (by omega) (by omega))) (by assumption)]; first | done | rfl)
                   | (rw [pc_star0 (by assumption) (by omega) (hnk2 i (by omega) (h5 i (by omega) (by omega))) (by assumption)]; first | done | rfl)
                   | (rw [pc_par1 (by assumption) (hnk i (by omega)) (by assumption)]; first | done | rfl)
                   | (rw [pc_other (fun q => by have q1 := q.1; have q2 := q.2; simp_all) (fun q => by have q1 := q.1; have q2 := q.2; first | omega | simp_all) (hnk i (by omega)) (fun _ => by omega)]; first | (rw [if_pos (by omega)]; first | done | rfl) | (rw [if_neg (by omega)]; first | done | rfl))
                ·skip
                 refine xA tb hM0 4 [1,2,5,6,7,8,108,112] [7] rfl ?_
                 refine spO 112 rfl ?_ ?_ <;> intro h16' <;> try simp only [dq] at h16'
                 ·skip
                  refine xA tb hM0 7 [1,2,5,6,8,117] [] rfl ?_
                  refine spC 117 rfl ?_ ?_ <;> intro h17 <;> try simp only [dq] at h17
                  ·skip
                   refine xA tb hM0 3 [1,2,5,6,118] [] rfl ?_
                   refine oP rfl (pure_sadd rfl rfl rfl (by have := hal i (by omega); have := hsep i; have := hpc i; have := hkl i (by omega); have := htl (r.kids.getD i default); (try simp only [List.length_append, List.length_cons, List.length_nil]); omega)) ?_
                   refine oP rfl (pure_sadd rfl rfl rfl (by have := hal i (by omega); have := hsep i; have := hpc i; have := hkl i (by omega); have := htl (r.kids.getD i default); (try simp only [List.length_append, List.length_cons, List.length_nil]); omega)) ?_
                   refine xA tb hM0 2 [1,2,5,6,8] [] rfl ?_
                   refine cx ?_
                   try simp only [Int.toNat_zero] at *
                   first
                     | (rw [pc_star1 (by assumption) (by omega) (h5 i (by omega) (by omega)) (hnk2 i (by omega) (h5 i (by omega) (by omega))) (by assumption)]; first | done | rfl)
                     | (rw [pc_star0 (by assumption) (by omega) (hnk2 i (by omega) (h5 i (by omega) (by omega))) (by assumption)]; first | done | rfl)
                     | (rw [pc_par1 (by assumption) (hnk i (by omega)) (by assumption)]; first | done | rfl)
                     | (rw [pc_other (fun q => by have q1 := q.1; have q2 := q.2; simp_all) (fun q => by have q1 := q.1; have q2 := q.2; first | omega | simp_all) (hnk i (by omega)) (fun _ => by omega)]; first | (rw [if_pos (by omega)]; first | done | rfl) | (rw [if_neg (by omega)]; first | done | rfl))
                  ·skip
                   refine xA tb hM0 2 [1,2,5,6,8] [] rfl ?_
                   refine cx ?_
                   try simp only [Int.toNat_zero] at *
                   first
                     | (rw [pc_star1 (by assumption) (by omega) (h5 i (by omega) (by omega)) (hnk2 i (by omega) (h5 i (by omega) (by omega))) (by assumption)]; first | done | rfl)
                     | (rw [pc_star0 (by assumption) (by omega) (hnk2 i (by omega) (h5 i (by omega) (by omega))) (by assumption)]; first | done | rfl)
                     | (rw [pc_par1 (by assumption) (hnk i (by omega)) (by assumption)]; first | done | rfl)
                     | (rw [pc_other (fun q => by have q1 := q.1; have q2 := q.2; simp_all) (fun q => by have q1 := q.1; have q2 := q.2; first | omega | simp_all) (hnk i (by omega)) (fun _ => by omega)]; first | (rw [if_pos (by omega)]; first | done | rfl) | (rw [if_neg (by omega)]; first | done | rfl))
                 ·skip
                  refine xA tb hM0 9 [1,2,5,6,8] [] rfl ?_
                  refine cx ?_
                  try simp only [Int.toNat_zero] at *
                  first
                    | (rw [pc_star1 (by assumption) (by omega) (h5 i (by omega) (by omega)) (hnk2 i (by omega) (h5 i (by omega) (by omega))) (by assumption)]; first | done | rfl)
                    | (rw [pc_star0 (by assumption) (by omega) (hnk2 i (by omega) (h5 i (by omega) (by omega))) (by assumption)]; first | done | rfl)
                    | (rw [pc_par1 (by assumption) (hnk i (by omega)) (by assumption)]; first | done | rfl)
                    | (rw [pc_other (fun q => by have q1 := q.1; have q2 := q.2; simp_all) (fun q => by have q1 := q.1; have q2 := q.2; first | omega | simp_all) (hnk i (by omega)) (fun _ => by omega)]; first | (rw [if_pos (by omega)]; first | done | rfl) | (rw [if_neg (by omega)]; first | done | rfl))
               ·skip
                refine xA tb hM0 10 [1,2,5,6,7,8,108,112] [7] rfl ?_
                refine spO 112 rfl ?_ ?_ <;> intro h18' <;> try simp only [dq] at h18'
                ·skip
                 refine xA tb hM0 7 [1,2,5,6,8,117] [] rfl ?_
                 refine spC 117 rfl ?_ ?_ <;> intro h19 <;> try simp only [dq] at h19
                 ·skip
                  refine xA tb hM0 3 [1,2,5,6,118] [] rfl ?_
                  refine oP rfl (pure_sadd rfl rfl rfl (by have := hal i (by omega); have := hsep i; have := hpc i; have := hkl i (by omega); have := htl (r.kids.getD i default); (try simp only [List.length_append, List.length_cons, List.length_nil]); omega)) ?_
                  refine oP rfl (pure_sadd rfl rfl rfl (by have := hal i (by omega); have := hsep i; have := hpc i; have := hkl i (by omega); have := htl (r.kids.getD i default); (try simp only [List.length_append, List.length_cons, List.length_nil]); omega)) ?_
                  refine xA tb hM0 2 [1,2,5,6,8] [] rfl ?_
                  refine cx ?_
                  try simp only [Int.toNat_zero] at *
                  first
                    | (rw [pc_star1 (by assumption) (by omega) (h5 i (by omega) (by omega)) (hnk2 i (by omega) (h5 i (by omega) (by omega))) (by assumption)]; first | done | rfl)
                    | (rw [pc_star0 (by assumption) (by omega) (hnk2 i (by omega) (h5 i (by omega) (by omega))) (by assumption)]; first | done | rfl)
                    | (rw [pc_par1 (by assumption) (hnk i (by omega)) (by assumption)]; first | done | rfl)
                    | (rw [pc_other (fun q => by have q1 := q.1; have q2 := q.2; simp_all) (fun q => by have q1 := q.1; have q2 := q.2; first | omega | simp_all) (hnk i (by omega)) (fun _ => by omega)]; first | (rw [if_pos (by omega)]; first | done | rfl) | (rw [if_neg (by omega)]; first | done | rfl))
                 ·skip
                  refine xA tb hM0 2 [1,2,5,6,8] [] rfl ?_
                  refine cx ?_
                  try simp only [Int.toNat_zero] at *
                  first
                    | (rw [pc_star1 (by assumption) (by omega) (h5 i (by omega) (by omega)) (hnk2 i (by omega) (h5 i (by omega) (by omega))) (by assumption)]; first | done | rfl)
                    | (rw [pc_star0 (by assumption) (by omega) (hnk2 i (by omega) (h5 i (by omega) (by omega))) (by assumption)]; first | done | rfl)
                    | (rw [pc_par1 (by assumption) (hnk i (by omega)) (by assumption)]; first | done | rfl)
                    | (rw [pc_other (fun q => by have q1 := q.1; have q2 := q.2; simp_all) (fun q => by have q1 := q.1; have q2 := q.2; first | omega | simp_all) (hnk i (by omega)) (fun _ => by omega)]; first | (rw [if_pos (by omega)]; first | done | rfl) | (rw [if_neg (by omega)]; first | done | rfl))
                ·skip
                 refine xA tb hM0 9 [1,2,5,6,8] [] rfl ?_
                 refine cx ?_
                 try simp only [Int.toNat_zero] at *
                 first
                   | (rw [pc_star1 (by assumption) (by omega) (h5 i (by omega) (by omega)) (hnk2 i (by omega) (h5 i (by omega) (by omega))) (by assumption)]; first | done | rfl)
                   | (rw [pc_star0 (by assumption) (by omega) (hnk2 i (by omega) (h5 i (by omega) (by omega))) (by assumption)]; first | done | rfl)
                   | (rw [pc_par1 (by assumption) (hnk i (by omega)) (by assumption)]; first | done | rfl)
                   | (rw [pc_other (fun q => by have q1 := q.1; have q2 := q.2; simp_all) (fun q => by have q1 := q.1; have q2 := q.2; first | omega | simp_all) (hnk i (by omega)) (fun _ => by omega)]; first | (rw [if_pos (by omega)]; first | done | rfl) | (rw [if_neg (by omega)]; first | done | rfl))
             ·skip
              refine xA tb hM0 9 [1,2,5,6,7,8,98,102] [7] rfl ?_
              refine spO 102 rfl ?_ ?_ <;> intro h20' <;> try simp only [dq] at h20'
              ·skip
               refine xA tb hM0 6 [1,2,5,6,7,8,108] [7] rfl ?_
               refine spO 108 rfl ?_ ?_ <;> intro h21' <;> try simp only [dq] at h21'
               ·skip
                refine xA tb hM0 14 [1,2,5,6,118] [] rfl ?_
                refine oP rfl (pure_sadd rfl rfl rfl (by have := hal i (by omega); have := hsep i; have := hpc i; have := hkl i (by omega); have := htl (r.kids.getD i default); (try simp only [List.length_append, List.length_cons, List.length_nil]); omega)) ?_
                refine oP rfl (pure_sadd rfl rfl rfl (by have := hal i (by omega); have := hsep i; have := hpc i; have := hkl i (by omega); have := htl (r.kids.getD i default); (try simp only [List.length_append, List.length_cons, List.length_nil]); omega)) ?_
                refine xA tb hM0 2 [1,2,5,6,8] [] rfl ?_
                refine cx ?_
                try simp only [Int.toNat_zero] at *
                first
                  | (rw [pc_star1 (by assumption) (by omega) (h5 i (by omega) (by omega)) (hnk2 i (by omega) (h5 i (by omega) (by omega))) (by assumption)]; first | done | rfl)
                  | (rw [pc_star0 (by assumption) (by omega) (hnk2 i (by omega) (h5 i (by omega) (by omega))) (by assumption)]; first | done | rfl)
                  | (rw [pc_par1 (by assumption) (hnk i (by omega)) (by assumption)]; first | done | rfl)
                  | (rw [pc_other (fun q => by have q1 := q.1; have q2 := q.2; simp_all) (fun q => by have q1 := q.1; have q2 := q.2; first | omega | simp_all) (hnk i (by omega)) (fun _ => by omega)]; first | (rw [if_pos (by omega)]; first | done | rfl) | (rw [if_neg (by omega)]; first | done | rfl))
               ·skip
                refine xA tb hM0 4 [1,2,5,6,7,8,108,112] [7] rfl ?_
                refine spO 112 rfl ?_ ?_ <;> intro h22' <;> try simp only [dq] at h22'
                ·skip
                 refine xA tb hM0 7 [1,2,5,6,8,117] [] rfl ?_
                 refine spC 117 rfl ?_ ?_ <;> intro h23 <;> try simp only [dq] at h23
                 ·skip
                  refine xA tb hM0 3 [1,2,5,6,118] [] rfl ?_
                  refine oP rfl (pure_sadd rfl rfl rfl (by have := hal i (by omega); have := hsep i; have := hpc i; have := hkl i (by omega); have := htl (r.kids.getD i default); (try simp only [List.length_append, List.length_cons, List.length_nil]); omega)) ?_
                  refine oP rfl (pure_sadd rfl rfl rfl (by have := hal i (by omega); have := hsep i; have := hpc i; have := hkl i (by omega); have := htl (r.kids.getD i default); (try simp only [List.length_append, List.length_cons, List.length_nil]); omega)) ?_
                  refine xA tb hM0 2 [1,2,5,6,8] [] rfl ?_
                  refine cx ?_
                  try simp only [Int.toNat_zero] at *
                  first
                    | (rw [pc_star1 (by assumption) (by omega) (h5 i (by omega) (by omega)) (hnk2 i (by omega) (h5 i (by omega) (by omega))) (by assumption)]; first | done | rfl)
                    | (rw [pc_star0 (by assumption) (by omega) (hnk2 i (by omega) (h5 i (by omega) (by omega))) (by assumption)]; first | done | rfl)
                    | (rw [pc_par1 (by assumption) (hnk i (by omega)) (by assumption)]; first | done | rfl)
                    | (rw [pc_other (fun q => by have q1 := q.1; have q2 := q.2; simp_all) (fun q => by have q1 := q.1; have q2 := q.2; first | omega | simp_all) (hnk i (by omega)) (fun _ => by omega)]; first | (rw [if_pos (by omega)]; first | done | rfl) | (rw [if_neg (by omega)]; first | done | rfl))
                 ·skip
                  refine xA tb hM0 2 [1,2,5,6,8] [] rfl ?_
                  refine cx ?_
                  try simp only [Int.toNat_zero] at *
                  first
                    | (rw [pc_star1 (by assumption) (by omega) (h5 i (by omega) (by omega)) (hnk2 i (by omega) (h5 i (by omega) (by omega))) (by assumption)]; first | done | rfl)
                    | (rw [pc_star0 (by assumption) (by omega) (hnk2 i (by omega) (h5 i (by omega) (by omega))) (by assumption)]; first | done | rfl)
                    | (rw [pc_par1 (by assumption) (hnk i (by omega)) (by assumption)]; first | done | rfl)
                    | (rw [pc_other (fun q => by have q1 := q.1; have q2 := q.2; simp_all) (fun q => by have q1 := q.1; have q2 := q.2; first | omega | simp_all) (hnk i (by omega)) (fun _ => by omega)]; first | (rw [if_pos (by omega)]; first | done | rfl) | (rw [if_neg (by omega)]; first | done | rfl))
                ·skip
                 refine xA tb hM0 9 [1,2,5,6,8] [] rfl ?_
                 refine cx ?_
                 try simp only [Int.toNat_zero] at *
                 first
                   | (rw [pc_star1 (by assumption) (by omega) (h5 i (by omega) (by omega)) (hnk2 i (by omega) (h5 i (by omega) (by omega))) (by assumption)]; first | done | rfl)
                   | (rw [pc_star0 (by assumption) (by omega) (hnk2 i (by omega) (h5 i (by omega) (by omega))) (by assumption)]; first | done | rfl)
                   | (rw [pc_par1 (by assumption) (hnk i (by omega)) (by assumption)]; first | done | rfl)
                   | (rw [pc_other (fun q => by have q1 := q.1; have q2 := q.2; simp_all) (fun q => by have q1 := q.1; have q2 := q.2; first | omega | simp_all) (hnk i (by omega)) (fun _ => by omega)]; first | (rw [if_pos (by omega)]; first | done | rfl) | (rw [if_neg (by omega)]; first | done | rfl))
              ·skip
               refine xA tb hM0 10 [1,2,5,6,7,8,108,112] [7] rfl ?_
               refine spO 112 rfl ?_ ?_ <;> intro h24' <;> try simp only [dq] at h24'
               ·skip
                refine xA tb hM0 7 [1,2,5,6,8,117] [] rfl ?_
                refine spC 117 rfl ?_ ?_ <;> intro h25 <;> try simp only [dq] at h25
                ·skip
                 refine xA tb hM0 3 [1,2,5,6,118] [] rfl ?_
                 refine oP rfl (pure_sadd rfl rfl rfl (by have := hal i (by omega); have := hsep i; have := hpc i; have := hkl i (by omega); have := htl (r.kids.getD i default); (try simp only [List.length_append, List.length_cons, List.length_nil]); omega)) ?_
                 refine oP rfl (pure_sadd rfl rfl rfl (by have := hal i (by omega); have := hsep i; have := hpc i; have := hkl i (by omega); have := htl (r.kids.getD i default); (try simp only [List.length_append, List.length_cons, List.length_nil]); omega)) ?_
                 refine xA tb hM0 2 [1,2,5,6,8] [] rfl ?_
                 refine cx ?_
                 try simp only [Int.toNat_zero] at *
                 first
                   | (rw [pc_star1 (by assumption) (by omega) (h5 i (by omega) (by omega)) (hnk2 i (by omega) (h5 i (by omega) (by omega))) (by assumption)]; first | done | rfl)
                   | (rw [pc_star0 (by assumption) (by omega) (hnk2 i (by omega) (h5 i (by omega) (by omega))) (by assumption)]; first | done | rfl)
                   | (rw [pc_par1 (by assumption) (hnk i (by omega)) (by assumption)]; first | done | rfl)
                   | (rw [pc_other (fun q => by have q1 := q.1; have q2 := q.2; simp_all) (fun q => by have q1 := q.1; have q2 := q.2; first | omega | simp_all) (hnk i (by omega)) (fun _ => by omega)]; first | (rw [if_pos (by omega)]; first | done | rfl) | (rw [if_neg (by omega)]; first | done | rfl))
                ·skip
                 refine xA tb hM0 2 [1,2,5,6,8] [] rfl ?_
                 refine cx ?_
                 try simp only [Int.toNat_zero] at *
                 first
                   | (rw [pc_star1 (by assumption) (by omega) (h5 i (by omega) (by omega)) (hnk2 i (by omega) (h5 i (by omega) (by omega))) (by assumption)]; first | done | rfl)
                   | (rw [pc_star0 (by assumption) (by omega) (hnk2 i (by omega) (h5 i (by omega) (by omega))) (by assumption)]; first | done | rfl)
                   | (rw [pc_par1 (by assumption) (hnk i (by omega)) (by assumption)]; first | done | rfl)
                   | (rw [pc_other (fun q => by have q1 := q.1; have q2 := q.2; simp_all) (fun q => by have q1 := q.1; have q2 := q.2; first | omega | simp_all) (hnk i (by omega)) (fun _ => by omega)]; first | (rw [if_pos (by omega)]; first | done | rfl) | (rw [if_neg (by omega)]; first | done | rfl))
               ·skip
                refine xA tb hM0 9 [1,2,5,6,8] [] rfl ?_
                refine cx ?_
                try simp only [Int.toNat_zero] at *
                first
                  | (rw [pc_star1 (by assumption) (by omega) (h5 i (by omega) (by omega)) (hnk2 i (by omega) (h5 i (by omega) (by omega))) (by assumption)]; first | done | rfl)
                  | (rw [pc_star0 (by assumption) (by omega) (hnk2 i (by omega) (h5 i (by omega) (by omega))) (by assumption)]; first | done | rfl)
                  | (rw [pc_par1 (by assumption) (hnk i (by omega)) (by assumption)]; first | done | rfl)
                  | (rw [pc_other (fun q => by have q1 := q.1; have q2 := q.2; simp_all) (fun q => by have q1 := q.1; have q2 := q.2; first | omega | simp_all) (hnk i (by omega)) (fun _ => by omega)]; first | (rw [if_pos (by omega)]; first | done | rfl) | (rw [if_neg (by omega)]; first | done | rfl))
           ·skip
            refine xA tb hM0 11 [1,2,5,6,7,8,93] [7] rfl ?_
            refine spO 93 rfl ?_ ?_ <;> intro h26' <;> try simp only [dq] at h26'
            ·skip
             refine xA tb hM0 2 [1,2,5,6,7,8,93,94,95] [7] rfl ?_
             refine oP rfl (pure_call rfl rfl rfl (rletter_call) hM0) ?_
             refine xA tb hM0 2 [1,2,5,6,7,8,98] [7] rfl ?_
             refine spO 98 rfl ?_ ?_ <;> intro h27' <;> try simp only [dq] at h27'
             ·skip
              refine xA tb hM0 24 [1,2,5,6,118] [] rfl ?_
              refine oP rfl (pure_sadd rfl rfl rfl (by have := hal i (by omega); have := hsep i; have := hpc i; have := hkl i (by omega); have := htl (r.kids.getD i default); (try simp only [List.length_append, List.length_cons, List.length_nil]); omega)) ?_
              refine oP rfl (pure_sadd rfl rfl rfl (by have := hal i (by omega); have := hsep i; have := hpc i; have := hkl i (by omega); have := htl (r.kids.getD i default); (try simp only [List.length_append, List.length_cons, List.length_nil]); omega)) ?_
              refine xA tb hM0 2 [1,2,5,6,8] [] rfl ?_
              refine cx ?_
              try simp only [Int.toNat_zero] at *
              first
                | (rw [pc_star1 (by assumption) (by omega) (h5 i (by omega) (by omega)) (hnk2 i (by omega) (h5 i (by omega) (by omega))) (by assumption)]; first | done | rfl)
                | (rw [pc_star0 (by assumption) (by omega) (hnk2 i (by omega) (h5 i (by omega) (by omega))) (by assumption)]; first | done | rfl)
                | (rw [pc_par1 (by assumption) (hnk i (by omega)) (by assumption)]; first | done | rfl)
                | (rw [pc_other (fun q => by have q1 := q.1; have q2 := q.2; simp_all) (fun q => by have q1 := q.1; have q2 := q.2; first | omega | simp_all) (hnk i (by omega)) (fun _ => by omega)]; first | (rw [if_pos (by omega)]; first | done | rfl) | (rw [if_neg (by omega)]; first | done | rfl))
             ·skip
              refine xA tb hM0 4 [1,2,5,6,7,8,98,102] [7] rfl ?_
              refine spO 102 rfl ?_ ?_ <;> intro h28' <;> try simp only [dq] at h28'
              ·skip
               refine xA tb hM0 6 [1,2,5,6,7,8,108] [7] rfl ?_
               refine spO 108 rfl ?_ ?_ <;> intro h29' <;> try simp only [dq] at h29'
               ·skip
                refine xA tb hM0 14 [1,2,5,6,118] [] rfl ?_
                refine oP rfl (pure_sadd rfl rfl rfl (by have := hal i (by omega); have := hsep i; have := hpc i; have := hkl i (by omega); have := htl (r.kids.getD i default); (try simp only [List.length_append, List.length_cons, List.length_nil]); omega)) ?_
                refine oP rfl (pure_sadd rfl rfl rfl (by have := hal i (by omega); have := hsep i; have := hpc i; have := hkl i (by omega); have := htl (r.kids.getD i default); (try simp only [List.length_append, List.length_cons, List.length_nil]); omega)) ?_
                refine xA tb hM0 2 [1,2,5,6,8] [] rfl ?_
                refine cx ?_
                try simp only [Int.toNat_zero] at *
                first
                  | (rw [pc_star1 (by assumption) (by omega) (h5 i (by omega) (by omega)) (hnk2 i (by omega) (h5 i (by omega) (by omega))) (by assumption)]; first | done | rfl)
                  | (rw [pc_star0 (by assumption) (by omega) (hnk2 i (by omega) (h5 i (by omega) (by omega))) (by assumption)]; first | done | rfl)
                  | (rw [pc_par1 (by assumption) (hnk i (by omega)) (by assumption)]; first | done | rfl)
                  | (rw [pc_other (fun q => by have q1 := q.1; have q2 := q.2; simp_all) (fun q => by have q1 := q.1; have q2 := q.2; first | omega | simp_all) (hnk i (by omega)) (fun _ => by omega)]; first | (rw [if_pos (by omega)]; first | done | rfl) | (rw [if_neg (by omega)]; first | done | rfl))
               ·skip
                refine xA tb hM0 4 [1,2,5,6,7,8,108,112] [7] rfl ?_
                refine spO 112 rfl ?_ ?_ <;> intro h30' <;> try simp only [dq] at h30'
                ·skip
                 refine xA tb hM0 7 [1,2,5,6,8,117] [] rfl ?_
                 refine spC 117 rfl ?_ ?_ <;> intro h31 <;> try simp only [dq] at h31
                 ·skip
                  refine xA tb hM0 3 [1,2,5,6,118] [] rfl ?_
                  refine oP rfl (pure_sadd rfl rfl rfl (by have := hal i (by omega); have := hsep i; have := hpc i; have := hkl i (by omega); have := htl (r.kids.getD i default); (try simp only [List.length_append, List.length_cons, List.length_nil]); omega)) ?_
                  refine oP rfl (pure_sadd rfl rfl rfl (by have := hal i (by omega); have := hsep i; have := hpc i; have := hkl i (by omega); have := htl (r.kids.getD i default); (try simp only [List.length_append, List.length_cons, List.length_nil]); omega)) ?_
                  refine xA tb hM0 2 [1,2,5,6,8] [] rfl ?_
                  refine cx ?_
                  try simp only [Int.toNat_zero] at *
                  first
                    | (rw [pc_star1 (by assumption) (by omega) (h5 i (by omega) (by omega)) (hnk2 i (by omega) (h5 i (by omega) (by omega))) (by assumption)]; first | done | rfl)
                    | (rw [pc_star0 (by assumption) (by omega) (hnk2 i (by omega) (h5 i (by omega) (by omega))) (by assumption)]; first | done | rfl)
                    | (rw [pc_par1 (by assumption) (hnk i (by omega)) (by assumption)]; first | done | rfl)
                    | (rw [pc_other (fun q => by have q1 := q.1; have q2 := q.2; simp_all) (fun q => by have q1 := q.1; have q2 := q.2; first | omega | simp_all) (hnk i (by omega)) (fun _ => by omega)]; first | (rw [if_pos (by omega)]; first | done | rfl) | (rw [if_neg (by omega)]; first | done | rfl))
                 ·skip
                  refine xA tb hM0 2 [1,2,5,6,8] [] rfl ?_
                  refine cx ?_
                  try simp only [Int.toNat_zero] at *
                  first
                    | (rw [pc_star1 (by assumption) (by omega) (h5 i (by omega) (by omega)) (hnk2 i (by omega) (h5 i (by omega) (by omega))) (by assumption)]; first | done | rfl)
                    | (rw [pc_star0 (by assumption) (by omega) (hnk2 i (by omega) (h5 i (by omega) (by omega))) (by assumption)]; first | done | rfl)
                    | (rw [pc_par1 (by assumption) (hnk i (by omega)) (by assumption)]; first | done | rfl)
                    | (rw [pc_other (fun q => by have q1 := q.1; have q2 := q.2; simp_all) (fun q => by have q1 := q.1; have q2 := q.2; first | omega | simp_all) (hnk i (by omega)) (fun _ => by omega)]; first | (rw [if_pos (by omega)]; first | done | rfl) | (rw [if_neg (by omega)]; first | done | rfl))
                ·skip
                 refine xA tb hM0 9 [1,2,5,6,8] [] rfl ?_
                 refine cx ?_
                 try simp only [Int.toNat_zero] at *
                 first
                   | (rw [pc_star1 (by assumption) (by omega) (h5 i (by omega) (by omega)) (hnk2 i (by omega) (h5 i (by omega) (by omega))) (by assumption)]; first | done | rfl)
                   | (rw [pc_star0 (by assumption) (by omega) (hnk2 i (by omega) (h5 i (by omega) (by omega))) (by assumption)]; first | done | rfl)
                   | (rw [pc_par1 (by assumption) (hnk i (by omega)) (by assumption)]; first | done | rfl)
                   | (rw [pc_other (fun q => by have q1 := q.1; have q2 := q.2; simp_all) (fun q => by have q1 := q.1; have q2 := q.2; first | omega | simp_all) (hnk i (by omega)) (fun _ => by omega)]; first | (rw [if_pos (by omega)]; first | done | rfl) | (rw [if_neg (by omega)]; first | done | rfl))
              ·skip
               refine xA tb hM0 10 [1,2,5,6,7,8,108,112] [7] rfl ?_
               refine spO 112 rfl ?_ ?_ <;> intro h32' <;> try simp only [dq] at h32'
               ·skip
                refine xA tb hM0 7 [1,2,5,6,8,117] [] rfl ?_
                refine spC 117 rfl ?_ ?_ <;> intro h33 <;> try simp only [dq] at h33
                ·skip
                 refine xA tb hM0 3 [1,2,5,6,118] [] rfl ?_
                 refine oP rfl (pure_sadd rfl rfl rfl (by have := hal i (by omega); have := hsep i; have := hpc i; have := hkl i (by omega); have := htl (r.kids.getD i default); (try simp only [List.length_append, List.length_cons, List.length_nil]); omega)) ?_
                 refine oP rfl (pure_sadd rfl rfl rfl (by have := hal i (by omega); have := hsep i; have := hpc i; have := hkl i (by omega); have := htl (r.kids.getD i default); (try simp only [List.length_append, List.length_cons, List.length_nil]); omega)) ?_
                 refine xA tb hM0 2 [1,2,5,6,8] [] rfl ?_
                 refine cx ?_
                 try simp only [Int.toNat_zero] at *
                 first
                   | (rw [pc_star1 (by assumption) (by omega) (h5 i (by omega) (by omega)) (hnk2 i (by omega) (h5 i (by omega) (by omega))) (by assumption)]; first | done | rfl)
                   | (rw [pc_star0 (by assumption) (by omega) (hnk2 i (by omega) (h5 i (by omega) (by omega))) (by assumption)]; first | done | rfl)
                   | (rw [pc_par1 (by assumption) (hnk i (by omega)) (by assumption)]; first | done | rfl)
                   | (rw [pc_other (fun q => by have q1 := q.1; have q2 := q.2; simp_all) (fun q => by have q1 := q.1; have q2 := q.2; first | omega | simp_all) (hnk i (by omega)) (fun _ => by omega)]; first | (rw [if_pos (by omega)]; first | done | rfl) | (rw [if_neg (by omega)]; first | done | rfl))
                ·skip
                 refine xA tb hM0 2 [1,2,5,6,8] [] rfl ?_
                 refine cx ?_
                 try simp only [Int.toNat_zero] at *
                 first
                   | (rw [pc_star1 (by assumption) (by omega) (h5 i (by omega) (by omega)) (hnk2 i (by omega) (h5 i (by omega) (by omega))) (by assumption)]; first | done | rfl)
                   | (rw [pc_star0 (by assumption) (by omega) (hnk2 i (by omega) (h5 i (by omega) (by omega))) (by assumption)]; first | done | rfl)
                   | (rw [pc_par1 (by assumption) (hnk i (by omega)) (by assumption)]; first | done | rfl)
                   | (rw [pc_other (fun q => by have q1 := q.1; have q2 := q.2; simp_all) (fun q => by have q1 := q.1; have q2 := q.2; first | omega | simp_all) (hnk i (by omega)) (fun _ => by omega)]; first | (rw [if_pos (by omega)]; first | done | rfl) | (rw [if_neg (by omega)]; first | done | rfl))
               ·skip
                refine xA tb hM0 9 [1,2,5,6,8] [] rfl ?_
                refine cx ?_
                try simp only [Int.toNat_zero] at *
                first
                  | (rw [pc_star1 (by assumption) (by omega) (h5 i (by omega) (by omega)) (hnk2 i (by omega) (h5 i (by omega) (by omega))) (by assumption)]; first | done | rfl)
                  | (rw [pc_star0 (by assumption) (by omega) (hnk2 i (by omega) (h5 i (by omega) (by omega))) (by assumption)]; first | done | rfl)
                  | (rw [pc_par1 (by assumption) (hnk i (by omega)) (by assumption)]; first | done | rfl)
                  | (rw [pc_other (fun q => by have q1 := q.1; have q2 := q.2; simp_all) (fun q => by have q1 := q.1; have q2 := q.2; first | omega | simp_all) (hnk i (by omega)) (fun _ => by omega)]; first | (rw [if_pos (by omega)]; first | done | rfl) | (rw [if_neg (by omega)]; first | done | rfl))
            ·skip
             refine xA tb hM0 9 [1,2,5,6,7,8,98,102] [7] rfl ?_
             refine spO 102 rfl ?_ ?_ <;> intro h34' <;> try simp only [dq] at h34'
             ·skip
              refine xA tb hM0 6 [1,2,5,6,7,8,108] [7] rfl ?_
              refine spO 108 rfl ?_ ?_ <;> intro h35' <;> try simp only [dq] at h35'
              ·skip
               refine xA tb hM0 14 [1,2,5,6,118] [] rfl ?_
               refine oP rfl (pure_sadd rfl rfl rfl (by have := hal i (by omega); have := hsep i; have := hpc i; have := hkl i (by omega); have := htl (r.kids.getD i default); (try simp only [List.length_append, List.length_cons, List.length_nil]); omega)) ?_
               refine oP rfl (pure_sadd rfl rfl rfl (by have := hal i (by omega); have := hsep i; have := hpc i; have := hkl i (by omega); have := htl (r.kids.getD i default); (try simp only [List.length_append, List.length_cons, List.length_nil]); omega)) ?_
               refine xA tb hM0 2 [1,2,5,6,8] [] rfl ?_
               refine cx ?_
               try simp only [Int.toNat_zero] at *
               first
                 | (rw [pc_star1 (by assumption) (by omega) (h5 i (by omega) (by omega)) (hnk2 i (by omega) (h5 i (by omega) (by omega))) (by assumption)]; first | done | rfl)
                 | (rw [pc_star0 (by assumption) (by omega) (hnk2 i (by omega) (h5 i (by omega) (by omega))) (by assumption)]; first | done | rfl)
                 | (rw [pc_par1 (by assumption) (hnk i (by omega)) (by assumption)]; first | done | rfl)
                 | (rw [pc_other (fun q => by have q1 := q.1; have q2 := q.2; simp_all) (fun q => by have q1 := q.1; have q2 := q.2; first | omega | simp_all) (hnk i (by omega)) (fun _ => by omega)]; first | (rw [if_pos (by omega)]; first | done | rfl) | (rw [if_neg (by omega)]; first | done | rfl))
              ·skip
               refine xA tb hM0 4 [1,2,5,6,7,8,108,112] [7] rfl ?_
               refine spO 112 rfl ?_ ?_ <;> intro h36' <;> try simp only [dq] at h36'
               ·skip
                refine xA tb hM0 7 [1,2,5,6,8,117] [] rfl ?_
                refine spC 117 rfl ?_ ?_ <;> intro h37 <;> try simp only [dq] at h37
                ·skip
                 refine xA tb hM0 3 [1,2,5,6,118] [] rfl ?_
                 refine oP rfl (pure_sadd rfl rfl rfl (by have := hal i (by omega); have := hsep i; have := hpc i; have := hkl i (by omega); have := htl (r.kids.getD i default); (try simp only [List.length_append, List.length_cons, List.length_nil]); omega)) ?_
                 refine oP rfl (pure_sadd rfl rfl rfl (by have := hal i (by omega); have := hsep i; have := hpc i; have := hkl i (by omega); have := htl (r.kids.getD i default); (try simp only [List.length_append, List.length_cons, List.length_nil]); omega)) ?_
                 refine xA tb hM0 2 [1,2,5,6,8] [] rfl ?_
                 refine cx ?_
                 try simp only [Int.toNat_zero] at *
                 first
                   | (rw [pc_star1 (by assumption) (by omega) (h5 i (by omega) (by omega)) (hnk2 i (by omega) (h5 i (by omega) (by omega))) (by assumption)]; first | done | rfl)
                   | (rw [pc_star0 (by assumption) (by omega) (hnk2 i (by omega) (h5 i (by omega) (by omega))) (by assumption)]; first | done | rfl)
                   | (rw [pc_par1 (by assumption) (hnk i (by omega)) (by assumption)]; first | done | rfl)
                   | (rw [pc_other (fun q => by have q1 := q.1; have q2 := q.2; simp_all) (fun q => by have q1 := q.1; have q2 := q.2; first | omega | simp_all) (hnk i (by omega)) (fun _ => by omega)]; first | (rw [if_pos (by omega)]; first | done | rfl) | (rw [if_neg (by omega)]; first | done | rfl))
                ·skip
                 refine xA tb hM0 2 [1,2,5,6,8] [] rfl ?_
                 refine cx ?_
                 try simp only [Int.toNat_zero] at *
                 first
                   | (rw [pc_star1 (by assumption) (by omega) (h5 i (by omega) (by omega)) (hnk2 i (by omega) (h5 i (by omega) (by omega))) (by assumption)]; first | done | rfl)
                   | (rw [pc_star0 (by assumption) (by omega) (hnk2 i (by omega) (h5 i (by omega) (by omega))) (by assumption)]; first | done | rfl)
                   | (rw [pc_par1 (by assumption) (hnk i (by omega)) (by assumption)]; first | done | rfl)
                   | (rw [pc_other (fun q => by have q1 := q.1; have q2 := q.2; simp_all) (fun q => by have q1 := q.1; have q2 := q.2; first | omega | simp_all) (hnk i (by omega)) (fun _ => by omega)]; first | (rw [if_pos (by omega)]; first | done | rfl) | (rw [if_neg (by omega)]; first | done | rfl))
               ·skip
                refine xA tb hM0 9 [1,2,5,6,8] [] rfl ?_
                refine cx ?_
                try simp only [Int.toNat_zero] at *
                first
                  | (rw [pc_star1 (by assumption) (by omega) (h5 i (by omega) (by omega)) (hnk2 i (by omega) (h5 i (by omega) (by omega))) (by assumption)]; first | done | rfl)
                  | (rw [pc_star0 (by assumption) (by omega) (hnk2 i (by omega) (h5 i (by omega) (by omega))) (by assumption)]; first | done | rfl)
                  | (rw [pc_par1 (by assumption) (hnk i (by omega)) (by assumption)]; first | done | rfl)
                  | (rw [pc_other (fun q => by have q1 := q.1; have q2 := q.2; simp_all) (fun q => by have q1 := q.1; have q2 := q.2; first | omega | simp_all) (hnk i (by omega)) (fun _ => by omega)]; first | (rw [if_pos (by omega)]; first | done | rfl) | (rw [if_neg (by omega)]; first | done | rfl))
             ·skip
              refine xA tb hM0 10 [1,2,5,6,7,8,108,112] [7] rfl ?_
              refine spO 112 rfl ?_ ?_ <;> intro h38' <;> try simp only [dq] at h38'
              ·skip
               refine xA tb hM0 7 [1,2,5,6,8,117] [] rfl ?_
               refine spC 117 rfl ?_ ?_ <;> intro h39 <;> try simp only [dq] at h39
               ·skip
                refine xA tb hM0 3 [1,2,5,6,118] [] rfl ?_
                refine oP rfl (pure_sadd rfl rfl rfl (by have := hal i (by omega); have := hsep i; have := hpc i; have := hkl i (by omega); have := htl (r.kids.getD i default); (try simp only [List.length_append, List.length_cons, List.length_nil]); omega)) ?_
                refine oP rfl (pure_sadd rfl rfl rfl (by have := hal i (by omega); have := hsep i; have := hpc i; have := hkl i (by omega); have := htl (r.kids.getD i default); (try simp only [List.length_append, List.length_cons, List.length_nil]); omega)) ?_
                refine xA tb hM0 2 [1,2,5,6,8] [] rfl ?_
                refine cx ?_
                try simp only [Int.toNat_zero] at *
                first
                  | (rw [pc_star1 (by assumption) (by omega) (h5 i (by omega) (by omega)) (hnk2 i (by omega) (h5 i (by omega) (by omega))) (by assumption)]; first | done | rfl)
                  | (rw [pc_star0 (by assumption) (by omega) (hnk2 i (by omega) (h5 i (by omega) (by omega))) (by assumption)]; first | done | rfl)
                  | (rw [pc_par1 (by assumption) (hnk i (by omega)) (by assumption)]; first | done | rfl)
                  | (rw [pc_other (fun q => by have q1 := q.1; have q2 := q.2; simp_all) (fun q => by have q1 := q.1; have q2 := q.2; first | omega | simp_all) (hnk i (by omega)) (fun _ => by omega)]; first | (rw [if_pos (by omega)]; first | done | rfl) | (rw [if_neg (by omega)]; first | done | rfl))
               ·skip
                refine xA tb hM0 2 [1,2,5,6,8] [] rfl ?_
                refine cx ?_
                try simp only [Int.toNat_zero] at *
                first
                  | (rw [pc_star1 (by assumption) (by omega) (h5 i (by omega) (by omega)) (hnk2 i (by omega) (h5 i (by omega) (by omega))) (by assumption)]; first | done | rfl)
                  | (rw [pc_star0 (by assumption) (by omega) (hnk2 i (by omega) (h5 i (by omega) (by omega))) (by assumption)]; first | done | rfl)
                  | (rw [pc_par1 (by assumption) (hnk i (by omega)) (by assumption)]; first | done | rfl)
                  | (rw [pc_other (fun q => by have q1 := q.1; have q2 := q.2; simp_all) (fun q => by have q1 := q.1; have q2 := q.2; first | omega | simp_all) (hnk i (by omega)) (fun _ => by omega)]; first | (rw [if_pos (by omega)]; first | done | rfl) | (rw [if_neg (by omega)]; first | done | rfl))
              ·skip
               refine xA tb hM0 9 [1,2,5,6,8] [] rfl ?_
               refine cx ?_
               try simp only [Int.toNat_zero] at *
               first
                 | (rw [pc_star1 (by assumption) (by omega) (h5 i (by omega) (by omega)) (hnk2 i (by omega) (h5 i (by omega) (by omega))) (by assumption)]; first | done | rfl)
                 | (rw [pc_star0 (by assumption) (by omega) (hnk2 i (by omega) (h5 i (by omega) (by omega))) (by assumption)]; first | done | rfl)
                 | (rw [pc_par1 (by assumption) (hnk i (by omega)) (by assumption)]; first | done | rfl)
                 | (rw [pc_other (fun q => by have q1 := q.1; have q2 := q.2; simp_all) (fun q => by have q1 := q.1; have q2 := q.2; first | omega | simp_all) (hnk i (by omega)) (fun _ => by omega)]; first | (rw [if_pos (by omega)]; first | done | rfl) | (rw [if_neg (by omega)]; first | done | rfl))
          ·rintro zs ⟨rfl⟩
           refine xA tb hM0 3 [1,2,6,121,122] [] rfl ?_
           refine oP rfl (pure_sadd rfl rfl rfl (by have := hal i (by omega); have := hsep i; have := hpc i; have := hkl i (by omega); have := htl (r.kids.getD i default); (try simp only [List.length_append, List.length_cons, List.length_nil]); omega)) ?_
           refine xA tb hM0 6 [1,2,5,25] [] rfl ?_
           refine oP rfl (pure_addi rfl rfl rfl (by omega)) ?_
           refine xA tb hM0 2 [1,2,5,6] [] rfl ?_
           refine nx ?_
           exact ⟨_, ⟨i + 1, rfl, by omega, by rw [accT_succ (by omega)]; rfl⟩, by omega⟩
        ·skip
         refine xA tb hM0 3 [1,2,5,6,7,8,9] [7] rfl ?_
         refine ct (fun zs => zs = ⟨130, [(1, .v .pl (letters a)), (2, .v .pl (rpc r)), (5, .v .pl (sbytes (sepT a r i))), (6, .v .pl (int i)), (7, .pbox 7 0), (8, .v .pl (sbytes (textR a (r.kids.getD i default)))), (9, .v .pl (bool (aptB a r i)))], [(7, .box 25 [.v .pl (int ((r.kids.getD i default)).kind), .v .pl (ints ((r.kids.getD i default)).syms), .v .pl (.sl (Rx.avs ((r.kids.getD i default)).kids))])]⟩) ?_ ?_
         ·skip
          refine xA tb hM0 5 [1,2,5,6,7,8,9,60] [7] rfl ?_
          refine spC 60 rfl ?_ ?_ <;> intro h40 <;> try simp only [dq] at h40
          ·skip
           refine xA tb hM0 5 [1,2,5,6,7,8,62,63] [7] rfl ?_
           refine oP rfl (pure_subi rfl rfl rfl (by omega)) ?_
           refine oP rfl (pure_ix rfl Tryz.underlying23 sz25 rfl rfl (by omega) (fun _ => rfl)) ?_
           refine xA tb hM0 2 [1,2,5,6,7,8,67] [7] rfl ?_
           refine oP rfl (pure_ix rfl Tryz.underlying22 sz3 rfl rfl (by first | (exfalso; omega) | (have h := oneB_t (a := a) (hnk ((i : Int) - 1).toNat (by omega)) (by assumption); have h3 := h.2.2.1; omega)) (fun _ => rfl)) ?_
           refine xA tb hM0 2 [1,2,5,6,7,8,69,70] [7] rfl ?_
           refine oP rfl (pure_call rfl rfl rfl (rlonger_call ha (by first | (exfalso; omega) | (have h := oneB_t (a := a) (hnk ((i : Int) - 1).toNat (by omega)) (by assumption); have h1 := h.1; have h2 := h.2.1; have h3 := h.2.2.2; (try simp only [Int.toNat_zero]); omega))) hM0) ?_
           refine xA tb hM0 2 [1,2,5,6,7,8,9] [7] rfl ?_
           refine cx ?_
           have ei : ((i : Int) - 1).toNat = i - 1 := by omega
           first
             | (exfalso; omega)
             | (rw [aptB_n (by omega)]; first | done | rfl | (rw [decide_eq_false (show ¬ (0 : Int) < (i : Int) by omega)]; first | done | rfl) | (rw [decide_eq_false (show ¬ (i : Int) > 0 by omega)]; first | done | rfl))
             | (rw [aptB_f (by omega) (by omega) (hnk _ (by omega)) (by rw [← ei]; assumption), show oneB a (r.kids.getD ((i : Int) - 1).toNat default) = false by assumption]; first | done | rfl)
             | (rw [aptB_t hA (by omega) (by omega) (hnk _ (by omega)) (by rw [← ei]; assumption), ← ei]; first | done | rfl)
          ·skip
           refine xA tb hM0 2 [1,2,5,6,7,8,9] [7] rfl ?_
           refine cx ?_
           have ei : ((i : Int) - 1).toNat = i - 1 := by omega
           first
             | (exfalso; omega)
             | (rw [aptB_n (by omega)]; first | done | rfl | (rw [decide_eq_false (show ¬ (0 : Int) < (i : Int) by omega)]; first | done | rfl) | (rw [decide_eq_false (show ¬ (i : Int) > 0 by omega)]; first | done | rfl))
             | (rw [aptB_f (by omega) (by omega) (hnk _ (by omega)) (by rw [← ei]; assumption), show oneB a (r.kids.getD ((i : Int) - 1).toNat default) = false by assumption]; first | done | rfl)
             | (rw [aptB_t hA (by omega) (by omega) (hnk _ (by omega)) (by rw [← ei]; assumption), ← ei]; first | done | rfl)
         ·rintro zs ⟨rfl⟩
          refine ct (fun zs => zs = ⟨130, [(1, .v .pl (letters a)), (2, .v .pl (rpc r)), (5, .v .pl (sbytes (sepT a r i))), (6, .v .pl (int i)), (8, .v .pl (sbytes (pcT a r i)))], []⟩) ?_ ?_
          ·skip
           refine xA tb hM0 4 [1,2,5,6,7,8,9,73] [7] rfl ?_
           refine spO 73 rfl ?_ ?_ <;> intro h41' <;> try simp only [dq] at h41'
           ·skip
            refine xA tb hM0 6 [1,2,5,6,7,8,9,77] [7] rfl ?_
            refine spC 77 rfl ?_ ?_ <;> intro h42 <;> try simp only [dq] at h42
            ·skip
             refine xA tb hM0 4 [1,2,5,6,7,8,78] [7] rfl ?_
             refine oP rfl (pure_avs (pure_load_box rfl ag23 rfl rfl rfl)) ?_
             refine oP rfl (pure_ix rfl Tryz.underlying23 sz25 rfl rfl (by have := h5 i (by omega) (by omega); omega) (fun _ => rfl)) ?_
             refine xA tb hM0 2 [1,2,5,6,7,8,81,82] [7] rfl ?_
             refine oP rfl (pure_call rfl rfl rfl (rletter_call) hM0) ?_
             refine xA tb hM0 2 [1,2,5,6,7,8,83] [7] rfl ?_
             refine spC 83 rfl ?_ ?_ <;> intro h43 <;> try simp only [dq] at h43
             ·skip
              refine xA tb hM0 3 [1,2,5,6,84] [7] rfl ?_
              refine oP rfl (pure_avs (pure_load_box rfl ag23 rfl rfl rfl)) ?_
              refine oP rfl (pure_ix rfl Tryz.underlying23 sz25 rfl rfl (by have := h5 i (by omega) (by omega); omega) (fun _ => rfl)) ?_
              refine xA tb hM0 2 [1,2,5,6,87,88] [] rfl ?_
              refine oP rfl (pure_callW hdr rfl rfl rfl (kb2 i (by omega) (h5 i (by omega) (by omega))) hM0) ?_
              refine oP rfl (pure_sadd rfl rfl rfl (by have := hkl2 i (by omega) (h5 i (by omega) (by omega)); have := htl ((r.kids.getD i default).kids.getD 0 default); (try simp only [List.length_append, List.length_cons, List.length_nil]); omega)) ?_
              refine xA tb hM0 0 [1,2,5,6,90] [] rfl ?_
              refine oP rfl (pure_sadd rfl rfl rfl (by have := hkl2 i (by omega) (h5 i (by omega) (by omega)); have := htl ((r.kids.getD i default).kids.getD 0 default); (try simp only [List.length_append, List.length_cons, List.length_nil]); omega)) ?_
              refine xA tb hM0 2 [1,2,5,6,8] [] rfl ?_
              refine cx ?_
              try simp only [Int.toNat_zero] at *
              first
                | (rw [pc_star1 (by assumption) (by omega) (h5 i (by omega) (by omega)) (hnk2 i (by omega) (h5 i (by omega) (by omega))) (by assumption)]; first | done | rfl)
                | (rw [pc_star0 (by assumption) (by omega) (hnk2 i (by omega) (h5 i (by omega) (by omega))) (by assumption)]; first | done | rfl)
                | (rw [pc_par1 (by assumption) (hnk i (by omega)) (by assumption)]; first | done | rfl)
                | (rw [pc_other (fun q => by have q1 := q.1; have q2 := q.2; simp_all) (fun q => by have q1 := q.1; have q2 := q.2; first | omega | simp_all) (hnk i (by omega)) (fun _ => by omega)]; first | (rw [if_pos (by omega)]; first | done | rfl) | (rw [if_neg (by omega)]; first | done | rfl))
             ·skip
              refine xA tb hM0 2 [1,2,5,6,8] [] rfl ?_
              refine cx ?_
              try simp only [Int.toNat_zero] at *
              first
                | (rw [pc_star1 (by assumption) (by omega) (h5 i (by omega) (by omega)) (hnk2 i (by omega) (h5 i (by omega) (by omega))) (by assumption)]; first | done | rfl)
                | (rw [pc_star0 (by assumption) (by omega) (hnk2 i (by omega) (h5 i (by omega) (by omega))) (by assumption)]; first | done | rfl)
                | (rw [pc_par1 (by assumption) (hnk i (by omega)) (by assumption)]; first | done | rfl)
                | (rw [pc_other (fun q => by have q1 := q.1; have q2 := q.2; simp_all) (fun q => by have q1 := q.1; have q2 := q.2; first | omega | simp_all) (hnk i (by omega)) (fun _ => by omega)]; first | (rw [if_pos (by omega)]; first | done | rfl) | (rw [if_neg (by omega)]; first | done | rfl))
            ·skip
             refine xA tb hM0 5 [1,2,5,6,7,8,93] [7] rfl ?_
             refine spO 93 rfl ?_ ?_ <;> intro h44' <;> try simp only [dq] at h44'
             ·skip
              refine xA tb hM0 2 [1,2,5,6,7,8,93,94,95] [7] rfl ?_
              refine oP rfl (pure_call rfl rfl rfl (rletter_call) hM0) ?_
              refine xA tb hM0 2 [1,2,5,6,7,8,98] [7] rfl ?_
              refine spO 98 rfl ?_ ?_ <;> intro h45' <;> try simp only [dq] at h45'
              ·skip
               refine xA tb hM0 24 [1,2,5,6,118] [] rfl ?_
               refine oP rfl (pure_sadd rfl rfl rfl (by have := hal i (by omega); have := hsep i; have := hpc i; have := hkl i (by omega); have := htl (r.kids.getD i default); (try simp only [List.length_append, List.length_cons, List.length_nil]); omega)) ?_
               refine oP rfl (pure_sadd rfl rfl rfl (by have := hal i (by omega); have := hsep i; have := hpc i; have := hkl i (by omega); have := htl (r.kids.getD i default); (try simp only [List.length_append, List.length_cons, List.length_nil]); omega)) ?_
               refine xA tb hM0 2 [1,2,5,6,8] [] rfl ?_
               refine cx ?_
               try simp only [Int.toNat_zero] at *
               first
                 | (rw [pc_star1 (by assumption) (by omega) (h5 i (by omega) (by omega)) (hnk2 i (by omega) (h5 i (by omega) (by omega))) (by assumption)]; first | done | rfl)
                 | (rw [pc_star0 (by assumption) (by omega) (hnk2 i (by omega) (h5 i (by omega) (by omega))) (by assumption)]; first | done | rfl)
                 | (rw [pc_par1 (by assumption) (hnk i (by omega)) (by assumption)]; first | done | rfl)
                 | (rw [pc_other (fun q => by have q1 := q.1; have q2 := q.2; simp_all) (fun q => by have q1 := q.1; have q2 := q.2; first | omega | simp_all) (hnk i (by omega)) (fun _ => by omega)]; first | (rw [if_pos (by omega)]; first | done | rfl) | (rw [if_neg (by omega)]; first | done | rfl))
              ·skip
               refine xA tb hM0 4 [1,2,5,6,7,8,98,102] [7] rfl ?_
               refine spO 102 rfl ?_ ?_ <;> intro h46' <;> try simp only [dq] at h46'
               ·skip
                refine xA tb hM0 6 [1,2,5,6,7,8,108] [7] rfl ?_
                refine spO 108 rfl ?_ ?_ <;> intro h47' <;> try simp only [dq] at h47'
                ·skip
                 refine xA tb hM0 14 [1,2,5,6,118] [] rfl ?_
                 refine oP rfl (pure_sadd rfl rfl rfl (by have := hal i (by omega); have := hsep i; have := hpc i; have := hkl i (by omega); have := htl (r.kids.getD i default); (try simp only [List.length_append, List.length_cons, List.length_nil]); omega)) ?_
                 refine oP rfl (pure_sadd rfl rfl rfl (by have := hal i (by omega); have := hsep i; have := hpc i; have := hkl i (by omega); have := htl (r.kids.getD i default); (try simp only [List.length_append, List.length_cons, List.length_nil]); omega)) ?_
                 refine xA tb hM0 2 [1,2,5,6,8] [] rfl ?_
                 refine cx ?_
                 try simp only [Int.toNat_zero] at *
                 first
                   | (rw [pc_star1 (by assumption) (by omega) (h5 i (by omega) (by omega)) (hnk2 i (by omega) (h5 i (by omega) (by omega))) (by assumption)]; first | done | rfl)
                   | (rw [pc_star0 (by assumption) (by omega) (hnk2 i (by omega) (h5 i (by omega) (by omega))) (by assumption)]; first | done | rfl)
                   | (rw [pc_par1 (by assumption) (hnk i (by omega)) (by assumption)]; first | done | rfl)
                   | (rw [pc_other (fun q => by have q1 := q.1; have q2 := q.2; simp_all) (fun q => by have q1 := q.1; have q2 := q.2; first | omega | simp_all) (hnk i (by omega)) (fun _ => by omega)]; first | (rw [if_pos (by omega)]; first | done | rfl) | (rw [if_neg (by omega)]; first | done | rfl))
                ·skip
                 refine xA tb hM0 4 [1,2,5,6,7,8,108,112] [7] rfl ?_
                 refine spO 112 rfl ?_ ?_ <;> intro h48' <;> try simp only [dq] at h48'
                 ·skip
                  refine xA tb hM0 7 [1,2,5,6,8,117] [] rfl ?_
                  refine spC 117 rfl ?_ ?_ <;> intro h49 <;> try simp only [dq] at h49
                  ·skip
                   refine xA tb hM0 3 [1,2,5,6,118] [] rfl ?_
                   refine oP rfl (pure_sadd rfl rfl rfl (by have := hal i (by omega); have := hsep i; have := hpc i; have := hkl i (by omega); have := htl (r.kids.getD i default); (try simp only [List.length_append, List.length_cons, List.length_nil]); omega)) ?_
                   refine oP rfl (pure_sadd rfl rfl rfl (by have := hal i (by omega); have := hsep i; have := hpc i; have := hkl i (by omega); have := htl (r.kids.getD i default); (try simp only [List.length_append, List.length_cons, List.length_nil]); omega)) ?_
                   refine xA tb hM0 2 [1,2,5,6,8] [] rfl ?_
                   refine cx ?_
                   try simp only [Int.toNat_zero] at *
                   first
                     | (rw [pc_star1 (by assumption) (by omega) (h5 i (by omega) (by omega)) (hnk2 i (by omega) (h5 i (by omega) (by omega))) (by assumption)]; first | done | rfl)
                     | (rw [pc_star0 (by assumption) (by omega) (hnk2 i (by omega) (h5 i (by omega) (by omega))) (by assumption)]; first | done | rfl)
                     | (rw [pc_par1 (by assumption) (hnk i (by omega)) (by assumption)]; first | done | rfl)
                     | (rw [pc_other (fun q => by have q1 := q.1; have q2 := q.2; simp_all) (fun q => by have q1 := q.1; have q2 := q.2; first | omega | simp_all) (hnk i (by omega)) (fun _ => by omega)]; first | (rw [if_pos (by omega)]; first | done | rfl) | (rw [if_neg (by omega)]; first | done | rfl))
                  ·skip
                   refine xA tb hM0 2 [1,2,5,6,8] [] rfl ?_
                   refine cx ?_
                   try simp only [Int.toNat_zero] at *
                   first
                     | (rw [pc_star1 (by assumption) (by omega) (h5 i (by omega) (by omega)) (hnk2 i (by omega) (h5 i (by omega) (by omega))) (by assumption)]; first | done | rfl)
                     | (rw [pc_star0 (by assumption) (by omega) (hnk2 i (by omega) (h5 i (by omega) (by omega))) (by assumption)]; first | done | rfl)
                     | (rw [pc_par1 (by assumption) (hnk i (by omega)) (by assumption)]; first | done | rfl)
                     | (rw [pc_other (fun q => by have q1 := q.1; have q2 := q.2; simp_all) (fun q => by have q1 := q.1; have q2 := q.2; first | omega | simp_all) (hnk i (by omega)) (fun _ => by omega)]; first | (rw [if_pos (by omega)]; first | done | rfl) | (rw [if_neg (by omega)]; first | done | rfl))
                 ·skip
                  refine xA tb hM0 9 [1,2,5,6,8] [] rfl ?_
                  refine cx ?_
                  try simp only [Int.toNat_zero] at *
                  first
                    | (rw [pc_star1 (by assumption) (by omega) (h5 i (by omega) (by omega)) (hnk2 i (by omega) (h5 i (by omega) (by omega))) (by assumption)]; first | done | rfl)
                    | (rw [pc_star0 (by assumption) (by omega) (hnk2 i (by omega) (h5 i (by omega) (by omega))) (by assumption)]; first | done | rfl)
                    | (rw [pc_par1 (by assumption) (hnk i (by omega)) (by assumption)]; first | done | rfl)
                    | (rw [pc_other (fun q => by have q1 := q.1; have q2 := q.2; simp_all) (fun q => by have q1 := q.1; have q2 := q.2; first | omega | simp_all) (hnk i (by omega)) (fun _ => by omega)]; first | (rw [if_pos (by omega)]; first | done | rfl) | (rw [if_neg (by omega)]; first | done | rfl))
               ·skip
                refine xA tb hM0 10 [1,2,5,6,7,8,108,112] [7] rfl ?_
                refine spO 112 rfl ?_ ?_ <;> intro h50' <;> try simp only [dq] at h50'
                ·skip
                 refine xA tb hM0 7 [1,2,5,6,8,117] [] rfl ?_
                 refine spC 117 rfl ?_ ?_ <;> intro h51 <;> try simp only [dq] at h51
                 ·skip
                  refine xA tb hM0 3 [1,2,5,6,118] [] rfl ?_
                  refine oP rfl (pure_sadd rfl rfl rfl (by have := hal i (by omega); have := hsep i; have := hpc i; have := hkl i (by omega); have := htl (r.kids.getD i default); (try simp only [List.length_append, List.length_cons, List.length_nil]); omega)) ?_
                  refine oP rfl (pure_sadd rfl rfl rfl (by have := hal i (by omega); have := hsep i; have := hpc i; have := hkl i (by omega); have := htl (r.kids.getD i default); (try simp only [List.length_append, List.length_cons, List.length_nil]); omega)) ?_
                  refine xA tb hM0 2 [1,2,5,6,8] [] rfl ?_
                  refine cx ?_
                  try simp only [Int.toNat_zero] at *
                  first
                    | (rw [pc_star1 (by assumption) (by omega) (h5 i (by omega) (by omega)) (hnk2 i (by omega) (h5 i (by omega) (by omega))) (by assumption)]; first | done | rfl)
                    | (rw [pc_star0 (by assumption) (by omega) (hnk2 i (by omega) (h5 i (by omega) (by omega))) (by assumption)]; first | done | rfl)
                    | (rw [pc_par1 (by assumption) (hnk i (by omega)) (by assumption)]; first | done | rfl)
                    | (rw [pc_other (fun q => by have q1 := q.1; have q2 := q.2; simp_all) (fun q => by have q1 := q.1; have q2 := q.2; first | omega | simp_all) (hnk i (by omega)) (fun _ => by omega)]; first | (rw [if_pos (by omega)]; first | done | rfl) | (rw [if_neg (by omega)]; first | done | rfl))
                 ·skip
                  refine xA tb hM0 2 [1,2,5,6,8] [] rfl ?_
                  refine cx ?_
                  try simp only [Int.toNat_zero] at *
                  first
                    | (rw [pc_star1 (by assumption) (by omega) (h5 i (by omega) (by omega)) (hnk2 i (by omega) (h5 i (by omega) (by omega))) (by assumption)]; first | done | rfl)
                    | (rw [pc_star0 (by assumption) (by omega) (hnk2 i (by omega) (h5 i (by omega) (by omega))) (by assumption)]; first | done | rfl)
                    | (rw [pc_par1 (by assumption) (hnk i (by omega)) (by assumption)]; first | done | rfl)
                    | (rw [pc_other (fun q => by have q1 := q.1; have q2 := q.2; simp_all) (fun q => by have q1 := q.1; have q2 := q.2; first | omega | simp_all) (hnk i (by omega)) (fun _ => by omega)]; first | (rw [if_pos (by omega)]; first | done | rfl) | (rw [if_neg (by omega)]; first | done | rfl))
                ·skip
                 refine xA tb hM0 9 [1,2,5,6,8] [] rfl ?_
                 refine cx ?_
                 try simp only [Int.toNat_zero] at *
                 first
                   | (rw [pc_star1 (by assumption) (by omega) (h5 i (by omega) (by omega)) (hnk2 i (by omega) (h5 i (by omega) (by omega))) (by assumption)]; first | done | rfl)
                   | (rw [pc_star0 (by assumption) (by omega) (hnk2 i (by omega) (h5 i (by omega) (by omega))) (by assumption)]; first | done | rfl)
                   | (rw [pc_par1 (by assumption) (hnk i (by omega)) (by assumption)]; first | done | rfl)
                   | (rw [pc_other (fun q => by have q1 := q.1; have q2 := q.2; simp_all) (fun q => by have q1 := q.1; have q2 := q.2; first | omega | simp_all) (hnk i (by omega)) (fun _ => by omega)]; first | (rw [if_pos (by omega)]; first | done | rfl) | (rw [if_neg (by omega)]; first | done | rfl))
             ·skip
              refine xA tb hM0 9 [1,2,5,6,7,8,98,102] [7] rfl ?_
              refine spO 102 rfl ?_ ?_ <;> intro h52' <;> try simp only [dq] at h52'
              ·skip
               refine xA tb hM0 6 [1,2,5,6,7,8,108] [7] rfl ?_
               refine spO 108 rfl ?_ ?_ <;> intro h53' <;> try simp only [dq] at h53'
               ·skip
                refine xA tb hM0 14 [1,2,5,6,118] [] rfl ?_
                refine oP rfl (pure_sadd rfl rfl rfl (by have := hal i (by omega); have := hsep i; have := hpc i; have := hkl i (by omega); have := htl (r.kids.getD i default); (try simp only [List.length_append, List.length_cons, List.length_nil]); omega)) ?_
                refine oP rfl (pure_sadd rfl rfl rfl (by have := hal i (by omega); have := hsep i; have := hpc i; have := hkl i (by omega); have := htl (r.kids.getD i default); (try simp only [List.length_append, List.length_cons, List.length_nil]); omega)) ?_
                refine xA tb hM0 2 [1,2,5,6,8] [] rfl ?_
                refine cx ?_
                try simp only [Int.toNat_zero] at *
                first
                  | (rw [pc_star1 (by assumption) (by omega) (h5 i (by omega) (by omega)) (hnk2 i (by omega) (h5 i (by omega) (by omega))) (by assumption)]; first | done | rfl)
                  | (rw [pc_star0 (by assumption) (by omega) (hnk2 i (by omega) (h5 i (by omega) (by omega))) (by assumption)]; first | done | rfl)
                  | (rw [pc_par1 (by assumption) (hnk i (by omega)) (by assumption)]; first | done | rfl)
                  | (rw [pc_other (fun q => by have q1 := q.1; have q2 := q.2; simp_all) (fun q => by have q1 := q.1; have q2 := q.2; first | omega | simp_all) (hnk i (by omega)) (fun _ => by omega)]; first | (rw [if_pos (by omega)]; first | done | rfl) | (rw [if_neg (by omega)]; first | done | rfl))
               ·skip
                refine xA tb hM0 4 [1,2,5,6,7,8,108,112] [7] rfl ?_
                refine spO 112 rfl ?_ ?_ <;> intro h54' <;> try simp only [dq] at h54'
                ·skip
                 refine xA tb hM0 7 [1,2,5,6,8,117] [] rfl ?_
                 refine spC 117 rfl ?_ ?_ <;> intro h55 <;> try simp only [dq] at h55
                 ·skip
                  refine xA tb hM0 3 [1,2,5,6,118] [] rfl ?_
                  refine oP rfl (pure_sadd rfl rfl rfl (by have := hal i (by omega); have := hsep i; have := hpc i; have := hkl i (by omega); have := htl (r.kids.getD i default); (try simp only [List.length_append, List.length_cons, List.length_nil]); omega)) ?_
                  refine oP rfl (pure_sadd rfl rfl rfl (by have := hal i (by omega); have := hsep i; have := hpc i; have := hkl i (by omega); have := htl (r.kids.getD i default); (try simp only [List.length_append, List.length_cons, List.length_nil]); omega)) ?_
                  refine xA tb hM0 2 [1,2,5,6,8] [] rfl ?_
                  refine cx ?_
                  try simp only [Int.toNat_zero] at *
                  first
                    | (rw [pc_star1 (by assumption) (by omega) (h5 i (by omega) (by omega)) (hnk2 i (by omega) (h5 i (by omega) (by omega))) (by assumption)]; first | done | rfl)
                    | (rw [pc_star0 (by assumption) (by omega) (hnk2 i (by omega) (h5 i (by omega) (by omega))) (by assumption)]; first | done | rfl)
                    | (rw [pc_par1 (by assumption) (hnk i (by omega)) (by assumption)]; first | done | rfl)
                    | (rw [pc_other (fun q => by have q1 := q.1; have q2 := q.2; simp_all) (fun q => by have q1 := q.1; have q2 := q.2; first | omega | simp_all) (hnk i (by omega)) (fun _ => by omega)]; first | (rw [if_pos (by omega)]; first | done | rfl) | (rw [if_neg (by omega)]; first | done | rfl))
                 ·skip
                  refine xA tb hM0 2 [1,2,5,6,8] [] rfl ?_
                  refine cx ?_
                  try simp only [Int.toNat_zero] at *
                  first
                    | (rw [pc_star1 (by assumption) (by omega) (h5 i (by omega) (by omega)) (hnk2 i (by omega) (h5 i (by omega) (by omega))) (by assumption)]; first | done | rfl)
                    | (rw [pc_star0 (by assumption) (by omega) (hnk2 i (by omega) (h5 i (by omega) (by omega))) (by assumption)]; first | done | rfl)
                    | (rw [pc_par1 (by assumption) (hnk i (by omega)) (by assumption)]; first | done | rfl)
                    | (rw [pc_other (fun q => by have q1 := q.1; have q2 := q.2; simp_all) (fun q => by have q1 := q.1; have q2 := q.2; first | omega | simp_all) (hnk i (by omega)) (fun _ => by omega)]; first | (rw [if_pos (by omega)]; first | done | rfl) | (rw [if_neg (by omega)]; first | done | rfl))
                ·skip
                 refine xA tb hM0 9 [1,2,5,6,8] [] rfl ?_
                 refine cx ?_
                 try simp only [Int.toNat_zero] at *
                 first
                   | (rw [pc_star1 (by assumption) (by omega) (h5 i (by omega) (by omega)) (hnk2 i (by omega) (h5 i (by omega) (by omega))) (by assumption)]; first | done | rfl)
                   | (rw [pc_star0 (by assumption) (by omega) (hnk2 i (by omega) (h5 i (by omega) (by omega))) (by assumption)]; first | done | rfl)
                   | (rw [pc_par1 (by assumption) (hnk i (by omega)) (by assumption)]; first | done | rfl)
                   | (rw [pc_other (fun q => by have q1 := q.1; have q2 := q.2; simp_all) (fun q => by have q1 := q.1; have q2 := q.2; first | omega | simp_all) (hnk i (by omega)) (fun _ => by omega)]; first | (rw [if_pos (by omega)]; first | done | rfl) | (rw [if_neg (by omega)]; first | done | rfl))
              ·skip
               refine xA tb hM0 10 [1,2,5,6,7,8,108,112] [7] rfl ?_
               refine spO 112 rfl ?_ ?_ <;> intro h56' <;> try simp only [dq] at h56'
               ·skip
                refine xA tb hM0 7 [1,2,5,6,8,117] [] rfl ?_
                refine spC 117 rfl ?_ ?_ <;> intro h57 <;> try simp only [dq] at h57
                ·skip
                 refine xA tb hM0 3 [1,2,5,6,118] [] rfl ?_
                 refine oP rfl (pure_sadd rfl rfl rfl (by have := hal i (by omega); have := hsep i; have := hpc i; have := hkl i (by omega); have := htl (r.kids.getD i default); (try simp only [List.length_append, List.length_cons, List.length_nil]); omega)) ?_
                 refine oP rfl (pure_sadd rfl rfl rfl (by have := hal i (by omega); have := hsep i; have := hpc i; have := hkl i (by omega); have := htl (r.kids.getD i default); (try simp only [List.length_append, List.length_cons, List.length_nil]); omega)) ?_
                 refine xA tb hM0 2 [1,2,5,6,8] [] rfl ?_
                 refine cx ?_
                 try simp only [Int.toNat_zero] at *
                 first
                   | (rw [pc_star1 (by assumption) (by omega) (h5 i (by omega) (by omega)) (hnk2 i (by omega) (h5 i (by omega) (by omega))) (by assumption)]; first | done | rfl)
                   | (rw [pc_star0 (by assumption) (by omega) (hnk2 i (by omega) (h5 i (by omega) (by omega))) (by assumption)]; first | done | rfl)
                   | (rw [pc_par1 (by assumption) (hnk i (by omega)) (by assumption)]; first | done | rfl)
                   | (rw [pc_other (fun q => by have q1 := q.1; have q2 := q.2; simp_all) (fun q => by have q1 := q.1; have q2 := q.2; first | omega | simp_all) (hnk i (by omega)) (fun _ => by omega)]; first | (rw [if_pos (by omega)]; first | done | rfl) | (rw [if_neg (by omega)]; first | done | rfl))
                ·skip
                 refine xA tb hM0 2 [1,2,5,6,8] [] rfl ?_
                 refine cx ?_
                 try simp only [Int.toNat_zero] at *
                 first
                   | (rw [pc_star1 (by assumption) (by omega) (h5 i (by omega) (by omega)) (hnk2 i (by omega) (h5 i (by omega) (by omega))) (by assumption)]; first | done | rfl)
                   | (rw [pc_star0 (by assumption) (by omega) (hnk2 i (by omega) (h5 i (by omega) (by omega))) (by assumption)]; first | done | rfl)
                   | (rw [pc_par1 (by assumption) (hnk i (by omega)) (by assumption)]; first | done | rfl)
                   | (rw [pc_other (fun q => by have q1 := q.1; have q2 := q.2; simp_all) (fun q => by have q1 := q.1; have q2 := q.2; first | omega | simp_all) (hnk i (by omega)) (fun _ => by omega)]; first | (rw [if_pos (by omega)]; first | done | rfl) | (rw [if_neg (by omega)]; first | done | rfl))
               ·skip
                refine xA tb hM0 9 [1,2,5,6,8] [] rfl ?_
                refine cx ?_
                try simp only [Int.toNat_zero] at *
                first
                  | (rw [pc_star1 (by assumption) (by omega) (h5 i (by omega) (by omega)) (hnk2 i (by omega) (h5 i (by omega) (by omega))) (by assumption)]; first | done | rfl)
                  | (rw [pc_star0 (by assumption) (by omega) (hnk2 i (by omega) (h5 i (by omega) (by omega))) (by assumption)]; first | done | rfl)
                  | (rw [pc_par1 (by assumption) (hnk i (by omega)) (by assumption)]; first | done | rfl)
                  | (rw [pc_other (fun q => by have q1 := q.1; have q2 := q.2; simp_all) (fun q => by have q1 := q.1; have q2 := q.2; first | omega | simp_all) (hnk i (by omega)) (fun _ => by omega)]; first | (rw [if_pos (by omega)]; first | done | rfl) | (rw [if_neg (by omega)]; first | done | rfl))
           ·skip
            refine xA tb hM0 11 [1,2,5,6,7,8,93] [7] rfl ?_
            refine spO 93 rfl ?_ ?_ <;> intro h58' <;> try simp only [dq] at h58'
            ·skip
             refine xA tb hM0 2 [1,2,5,6,7,8,93,94,95] [7] rfl ?_
             refine oP rfl (pure_call rfl rfl rfl (rletter_call) hM0) ?_
             refine xA tb hM0 2 [1,2,5,6,7,8,98] [7] rfl ?_
             refine spO 98 rfl ?_ ?_ <;> intro h59' <;> try simp only [dq] at h59'
             ·skip
              refine xA tb hM0 24 [1,2,5,6,118] [] rfl ?_
              refine oP rfl (pure_sadd rfl rfl rfl (by have := hal i (by omega); have := hsep i; have := hpc i; have := hkl i (by omega); have := htl (r.kids.getD i default); (try simp only [List.length_append, List.length_cons, List.length_nil]); omega)) ?_
              refine oP rfl (pure_sadd rfl rfl rfl (by have := hal i (by omega); have := hsep i; have := hpc i; have := hkl i (by omega); have := htl (r.kids.getD i default); (try simp only [List.length_append, List.length_cons, List.length_nil]); omega)) ?_
              refine xA tb hM0 2 [1,2,5,6,8] [] rfl ?_
              refine cx ?_
              try simp only [Int.toNat_zero] at *
              first
                | (rw [pc_star1 (by assumption) (by omega) (h5 i (by omega) (by omega)) (hnk2 i (by omega) (h5 i (by omega) (by omega))) (by assumption)]; first | done | rfl)
                | (rw [pc_star0 (by assumption) (by omega) (hnk2 i (by omega) (h5 i (by omega) (by omega))) (by assumption)]; first | done | rfl)
                | (rw [pc_par1 (by assumption) (hnk i (by omega)) (by assumption)]; first | done | rfl)
                | (rw [pc_other (fun q => by have q1 := q.1; have q2 := q.2; simp_all) (fun q => by have q1 := q.1; have q2 := q.2; first | omega | simp_all) (hnk i (by omega)) (fun _ => by omega)]; first | (rw [if_pos (by omega)]; first | done | rfl) | (rw [if_neg (by omega)]; first | done | rfl))
             ·skip
              refine xA tb hM0 4 [1,2,5,6,7,8,98,102] [7] rfl ?_
              refine spO 102 rfl ?_ ?_ <;> intro h60' <;> try simp only [dq] at h60'
              ·skip
               refine xA tb hM0 6 [1,2,5,6,7,8,108] [7] rfl ?_
               refine spO 108 rfl ?_ ?_ <;> intro h61' <;> try simp only [dq] at h61'
               ·skip
                refine xA tb hM0 14 [1,2,5,6,118] [] rfl ?_
                refine oP rfl (pure_sadd rfl rfl rfl (by have := hal i (by omega); have := hsep i; have := hpc i; have := hkl i (by omega); have := htl (r.kids.getD i default); (try simp only [List.length_append, List.length_cons, List.length_nil]); omega)) ?_
                refine oP rfl (pure_sadd rfl rfl rfl (by have := hal i (by omega); have := hsep i; have := hpc i; have := hkl i (by omega); have := htl (r.kids.getD i default); (try simp only [List.length_append, List.length_cons, List.length_nil]); omega)) ?_
                refine xA tb hM0 2 [1,2,5,6,8] [] rfl ?_
                refine cx ?_
                try simp only [Int.toNat_zero] at *
                first
                  | (rw [pc_star1 (by assumption) (by omega) (h5 i (by omega) (by omega)) (hnk2 i (by omega) (h5 i (by omega) (by omega))) (by assumption)]; first | done | rfl)
                  | (rw [pc_star0 (by assumption) (by omega) (hnk2 i (by omega) (h5 i (by omega) (by omega))) (by assumption)]; first | done | rfl)
                  | (rw [pc_par1 (by assumption) (hnk i (by omega)) (by assumption)]; first | done | rfl)
                  | (rw [pc_other (fun q => by have q1 := q.1; have q2 := q.2; simp_all) (fun q => by have q1 := q.1; have q2 := q.2; first | omega | simp_all) (hnk i (by omega)) (fun _ => by omega)]; first | (rw [if_pos (by omega)]; first | done | rfl) | (rw [if_neg (by omega)]; first | done | rfl))
               ·skip
                refine xA tb hM0 4 [1,2,5,6,7,8,108,112] [7] rfl ?_
                refine spO 112 rfl ?_ ?_ <;> intro h62' <;> try simp only [dq] at h62'
                ·skip
                 refine xA tb hM0 7 [1,2,5,6,8,117] [] rfl ?_
                 refine spC 117 rfl ?_ ?_ <;> intro h63 <;> try simp only [dq] at h63
                 ·skip
                  refine xA tb hM0 3 [1,2,5,6,118] [] rfl ?_
                  refine oP rfl (pure_sadd rfl rfl rfl (by have := hal i (by omega); have := hsep i; have := hpc i; have := hkl i (by omega); have := htl (r.kids.getD i default); (try simp only [List.length_append, List.length_cons, List.length_nil]); omega)) ?_
                  refine oP rfl (pure_sadd rfl rfl rfl (by have := hal i (by omega); have := hsep i; have := hpc i; have := hkl i (by omega); have := htl (r.kids.getD i default); (try simp only [List.length_append, List.length_cons, List.length_nil]); omega)) ?_
                  refine xA tb hM0 2 [1,2,5,6,8] [] rfl ?_
                  refine cx ?_
                  try simp only [Int.toNat_zero] at *
                  first
                    | (rw [pc_star1 (by assumption) (by omega) (h5 i (by omega) (by omega)) (hnk2 i (by omega) (h5 i (by omega) (by omega))) (by assumption)]; first | done | rfl)
                    | (rw [pc_star0 (by assumption) (by omega) (hnk2 i (by omega) (h5 i (by omega) (by omega))) (by assumption)]; first | done | rfl)
                    | (rw [pc_par1 (by assumption) (hnk i (by omega)) (by assumption)]; first | done | rfl)
                    | (rw [pc_other (fun q => by have q1 := q.1; have q2 := q.2; simp_all) (fun q => by have q1 := q.1; have q2 := q.2; first | omega | simp_all) (hnk i (by omega)) (fun _ => by omega)]; first | (rw [if_pos (by omega)]; first | done | rfl) | (rw [if_neg (by omega)]; first | done | rfl))
                 ·skip
                  refine xA tb hM0 2 [1,2,5,6,8] [] rfl ?_
                  refine cx ?_
                  try simp only [Int.toNat_zero] at *
                  first
                    | (rw [pc_star1 (by assumption) (by omega) (h5 i (by omega) (by omega)) (hnk2 i (by omega) (h5 i (by omega) (by omega))) (by assumption)]; first | done | rfl)
                    | (rw [pc_star0 (by assumption) (by omega) (hnk2 i (by omega) (h5 i (by omega) (by omega))) (by assumption)]; first | done | rfl)
                    | (rw [pc_par1 (by assumption) (hnk i (by omega)) (by assumption)]; first | done | rfl)
                    | (rw [pc_other (fun q => by have q1 := q.1; have q2 := q.2; simp_all) (fun q => by have q1 := q.1; have q2 := q.2; first | omega | simp_all) (hnk i (by omega)) (fun _ => by omega)]; first | (rw [if_pos (by omega)]; first | done | rfl) | (rw [if_neg (by omega)]; first | done | rfl))
                ·skip
                 refine xA tb hM0 9 [1,2,5,6,8] [] rfl ?_
                 refine cx ?_
                 try simp only [Int.toNat_zero] at *
                 first
                   | (rw [pc_star1 (by assumption) (by omega) (h5 i (by omega) (by omega)) (hnk2 i (by omega) (h5 i (by omega) (by omega))) (by assumption)]; first | done | rfl)
                   | (rw [pc_star0 (by assumption) (by omega) (hnk2 i (by omega) (h5 i (by omega) (by omega))) (by assumption)]; first | done | rfl)
                   | (rw [pc_par1 (by assumption) (hnk i (by omega)) (by assumption)]; first | done | rfl)
                   | (rw [pc_other (fun q => by have q1 := q.1; have q2 := q.2; simp_all) (fun q => by have q1 := q.1; have q2 := q.2; first | omega | simp_all) (hnk i (by omega)) (fun _ => by omega)]; first | (rw [if_pos (by omega)]; first | done | rfl) | (rw [if_neg (by omega)]; first | done | rfl))
              ·skip
               refine xA tb hM0 10 [1,2,5,6,7,8,108,112] [7] rfl ?_
               refine spO 112 rfl ?_ ?_ <;> intro h64' <;> try simp only [dq] at h64'
               ·skip
                refine xA tb hM0 7 [1,2,5,6,8,117] [] rfl ?_
                refine spC 117 rfl ?_ ?_ <;> intro h65 <;> try simp only [dq] at h65
                ·skip
                 refine xA tb hM0 3 [1,2,5,6,118] [] rfl ?_
                 refine oP rfl (pure_sadd rfl rfl rfl (by have := hal i (by omega); have := hsep i; have := hpc i; have := hkl i (by omega); have := htl (r.kids.getD i default); (try simp only [List.length_append, List.length_cons, List.length_nil]); omega)) ?_
                 refine oP rfl (pure_sadd rfl rfl rfl (by have := hal i (by omega); have := hsep i; have := hpc i; have := hkl i (by omega); have := htl (r.kids.getD i default); (try simp only [List.length_append, List.length_cons, List.length_nil]); omega)) ?_
                 refine xA tb hM0 2 [1,2,5,6,8] [] rfl ?_
                 refine cx ?_
                 try simp only [Int.toNat_zero] at *
                 first
                   | (rw [pc_star1 (by assumption) (by omega) (h5 i (by omega) (by omega)) (hnk2 i (by omega) (h5 i (by omega) (by omega))) (by assumption)]; first | done | rfl)
                   | (rw [pc_star0 (by assumption) (by omega) (hnk2 i (by omega) (h5 i (by omega) (by omega))) (by assumption)]; first | done | rfl)
                   | (rw [pc_par1 (by assumption) (hnk i (by omega)) (by assumption)]; first | done | rfl)
                   | (rw [pc_other (fun q => by have q1 := q.1; have q2 := q.2; simp_all) (fun q => by have q1 := q.1; have q2 := q.2; first | omega | simp_all) (hnk i (by omega)) (fun _ => by omega)]; first | (rw [if_pos (by omega)]; first | done | rfl) | (rw [if_neg (by omega)]; first | done | rfl))
                ·skip
                 refine xA tb hM0 2 [1,2,5,6,8] [] rfl ?_
                 refine cx ?_
                 try simp only [Int.toNat_zero] at *
                 first
                   | (rw [pc_star1 (by assumption) (by omega) (h5 i (by omega) (by omega)) (hnk2 i (by omega) (h5 i (by omega) (by omega))) (by assumption)]; first | done | rfl)
                   | (rw [pc_star0 (by assumption) (by omega) (hnk2 i (by omega) (h5 i (by omega) (by omega))) (by assumption)]; first | done | rfl)
                   | (rw [pc_par1 (by assumption) (hnk i (by omega)) (by assumption)]; first | done | rfl)
                   | (rw [pc_other (fun q => by have q1 := q.1; have q2 := q.2; simp_all) (fun q => by have q1 := q.1; have q2 := q.2; first | omega | simp_all) (hnk i (by omega)) (fun _ => by omega)]; first | (rw [if_pos (by omega)]; first | done | rfl) | (rw [if_neg (by omega)]; first | done | rfl))
               ·skip
                refine xA tb hM0 9 [1,2,5,6,8] [] rfl ?_
                refine cx ?_
                try simp only [Int.toNat_zero] at *
                first
                  | (rw [pc_star1 (by assumption) (by omega) (h5 i (by omega) (by omega)) (hnk2 i (by omega) (h5 i (by omega) (by omega))) (by assumption)]; first | done | rfl)
                  | (rw [pc_star0 (by assumption) (by omega) (hnk2 i (by omega) (h5 i (by omega) (by omega))) (by assumption)]; first | done | rfl)
                  | (rw [pc_par1 (by assumption) (hnk i (by omega)) (by assumption)]; first | done | rfl)
                  | (rw [pc_other (fun q => by have q1 := q.1; have q2 := q.2; simp_all) (fun q => by have q1 := q.1; have q2 := q.2; first | omega | simp_all) (hnk i (by omega)) (fun _ => by omega)]; first | (rw [if_pos (by omega)]; first | done | rfl) | (rw [if_neg (by omega)]; first | done | rfl))
            ·skip
             refine xA tb hM0 9 [1,2,5,6,7,8,98,102] [7] rfl ?_
             refine spO 102 rfl ?_ ?_ <;> intro h66' <;> try simp only [dq] at h66'
             ·skip
              refine xA tb hM0 6 [1,2,5,6,7,8,108] [7] rfl ?_
              refine spO 108 rfl ?_ ?_ <;> intro h67' <;> try simp only [dq] at h67'
              ·skip
               refine xA tb hM0 14 [1,2,5,6,118] [] rfl ?_
               refine oP rfl (pure_sadd rfl rfl rfl (by have := hal i (by omega); have := hsep i; have := hpc i; have := hkl i (by omega); have := htl (r.kids.getD i default); (try simp only [List.length_append, List.length_cons, List.length_nil]); omega)) ?_
               refine oP rfl (pure_sadd rfl rfl rfl (by have := hal i (by omega); have := hsep i; have := hpc i; have := hkl i (by omega); have := htl (r.kids.getD i default); (try simp only [List.length_append, List.length_cons, List.length_nil]); omega)) ?_
               refine xA tb hM0 2 [1,2,5,6,8] [] rfl ?_
               refine cx ?_
               try simp only [Int.toNat_zero] at *
               first
                 | (rw [pc_star1 (by assumption) (by omega) (h5 i (by omega) (by omega)) (hnk2 i (by omega) (h5 i (by omega) (by omega))) (by assumption)]; first | done | rfl)
                 | (rw [pc_star0 (by assumption) (by omega) (hnk2 i (by omega) (h5 i (by omega) (by omega))) (by assumption)]; first | done | rfl)
                 | (rw [pc_par1 (by assumption) (hnk i (by omega)) (by assumption)]; first | done | rfl)
                 | (rw [pc_other (fun q => by have q1 := q.1; have q2 := q.2; simp_all) (fun q => by have q1 := q.1; have q2 := q.2; first | omega | simp_all) (hnk i (by omega)) (fun _ => by omega)]; first | (rw [if_pos (by omega)]; first | done | rfl) | (rw [if_neg (by omega)]; first | done | rfl))
              ·skip
               refine xA tb hM0 4 [1,2,5,6,7,8,108,112] [7] rfl ?_
               refine spO 112 rfl ?_ ?_ <;> intro h68' <;> try simp only [dq] at h68'
               ·skip
                refine xA tb hM0 7 [1,2,5,6,8,117] [] rfl ?_
                refine spC 117 rfl ?_ ?_ <;> intro h69 <;> try simp only [dq] at h69
                ·skip
                 refine xA tb hM0 3 [1,2,5,6,118] [] rfl ?_
                 refine oP rfl (pure_sadd rfl rfl rfl (by have := hal i (by omega); have := hsep i; have := hpc i; have := hkl i (by omega); have := htl (r.kids.getD i default); (try simp only [List.length_append, List.length_cons, List.length_nil]); omega)) ?_
                 refine oP rfl (pure_sadd rfl rfl rfl (by have := hal i (by omega); have := hsep i; have := hpc i; have := hkl i (by omega); have := htl (r.kids.getD i default); (try simp only [List.length_append, List.length_cons, List.length_nil]); omega)) ?_
                 refine xA tb hM0 2 [1,2,5,6,8] [] rfl ?_
                 refine cx ?_
                 try simp only [Int.toNat_zero] at *
                 first
                   | (rw [pc_star1 (by assumption) (by omega) (h5 i (by omega) (by omega)) (hnk2 i (by omega) (h5 i (by omega) (by omega))) (by assumption)]; first | done | rfl)
                   | (rw [pc_star0 (by assumption) (by omega) (hnk2 i (by omega) (h5 i (by omega) (by omega))) (by assumption)]; first | done | rfl)
                   | (rw [pc_par1 (by assumption) (hnk i (by omega)) (by assumption)]; first | done | rfl)
                   | (rw [pc_other (fun q => by have q1 := q.1; have q2 := q.2; simp_all) (fun q => by have q1 := q.1; have q2 := q.2; first | omega | simp_all) (hnk i (by omega)) (fun _ => by omega)]; first | (rw [if_pos (by omega)]; first | done | rfl) | (rw [if_neg (by omega)]; first | done | rfl))
                ·skip
                 refine xA tb hM0 2 [1,2,5,6,8] [] rfl ?_
                 refine cx ?_
                 try simp only [Int.toNat_zero] at *
                 first
                   | (rw [pc_star1 (by assumption) (by omega) (h5 i (by omega) (by omega)) (hnk2 i (by omega) (h5 i (by omega) (by omega))) (by assumption)]; first | done | rfl)
                   | (rw [pc_star0 (by assumption) (by omega) (hnk2 i (by omega) (h5 i (by omega) (by omega))) (by assumption)]; first | done | rfl)
                   | (rw [pc_par1 (by assumption) (hnk i (by omega)) (by assumption)]; first | done | rfl)
                   | (rw [pc_other (fun q => by have q1 := q.1; have q2 := q.2; simp_all) (fun q => by have q1 := q.1; have q2 := q.2; first | omega | simp_all) (hnk i (by omega)) (fun _ => by omega)]; first | (rw [if_pos (by omega)]; first | done | rfl) | (rw [if_neg (by omega)]; first | done | rfl))
               ·skip
                refine xA tb hM0 9 [1,2,5,6,8] [] rfl ?_
                refine cx ?_
                try simp only [Int.toNat_zero] at *
                first
                  | (rw [pc_star1 (by assumption) (by omega) (h5 i (by omega) (by omega)) (hnk2 i (by omega) (h5 i (by omega) (by omega))) (by assumption)]; first | done | rfl)
                  | (rw [pc_star0 (by assumption) (by omega) (hnk2 i (by omega) (h5 i (by omega) (by omega))) (by assumption)]; first | done | rfl)
                  | (rw [pc_par1 (by assumption) (hnk i (by omega)) (by assumption)]; first | done | rfl)
                  | (rw [pc_other (fun q => by have q1 := q.1; have q2 := q.2; simp_all) (fun q => by have q1 := q.1; have q2 := q.2; first | omega | simp_all) (hnk i (by omega)) (fun _ => by omega)]; first | (rw [if_pos (by omega)]; first | done | rfl) | (rw [if_neg (by omega)]; first | done | rfl))
             ·skip
              refine xA tb hM0 10 [1,2,5,6,7,8,108,112] [7] rfl ?_
              refine spO 112 rfl ?_ ?_ <;> intro h70' <;> try simp only [dq] at h70'
              ·skip
               refine xA tb hM0 7 [1,2,5,6,8,117] [] rfl ?_
               refine spC 117 rfl ?_ ?_ <;> intro h71 <;> try simp only [dq] at h71
               ·skip
                refine xA tb hM0 3 [1,2,5,6,118] [] rfl ?_
                refine oP rfl (pure_sadd rfl rfl rfl (by have := hal i (by omega); have := hsep i; have := hpc i; have := hkl i (by omega); have := htl (r.kids.getD i default); (try simp only [List.length_append, List.length_cons, List.length_nil]); omega)) ?_
                refine oP rfl (pure_sadd rfl rfl rfl (by have := hal i (by omega); have := hsep i; have := hpc i; have := hkl i (by omega); have := htl (r.kids.getD i default); (try simp only [List.length_append, List.length_cons, List.length_nil]); omega)) ?_
                refine xA tb hM0 2 [1,2,5,6,8] [] rfl ?_
                refine cx ?_
                try simp only [Int.toNat_zero] at *
                first
                  | (rw [pc_star1 (by assumption) (by omega) (h5 i (by omega) (by omega)) (hnk2 i (by omega) (h5 i (by omega) (by omega))) (by assumption)]; first | done | rfl)
                  | (rw [pc_star0 (by assumption) (by omega) (hnk2 i (by omega) (h5 i (by omega) (by omega))) (by assumption)]; first | done | rfl)
                  | (rw [pc_par1 (by assumption) (hnk i (by omega)) (by assumption)]; first | done | rfl)
                  | (rw [pc_other (fun q => by have q1 := q.1; have q2 := q.2; simp_all) (fun q => by have q1 := q.1; have q2 := q.2; first | omega | simp_all) (hnk i (by omega)) (fun _ => by omega)]; first | (rw [if_pos (by omega)]; first | done | rfl) | (rw [if_neg (by omega)]; first | done | rfl))
               ·skip
                refine xA tb hM0 2 [1,2,5,6,8] [] rfl ?_
                refine cx ?_
                try simp only [Int.toNat_zero] at *
                first
                  | (rw [pc_star1 (by assumption) (by omega) (h5 i (by omega) (by omega)) (hnk2 i (by omega) (h5 i (by omega) (by omega))) (by assumption)]; first | done | rfl)
                  | (rw [pc_star0 (by assumption) (by omega) (hnk2 i (by omega) (h5 i (by omega) (by omega))) (by assumption)]; first | done | rfl)
                  | (rw [pc_par1 (by assumption) (hnk i (by omega)) (by assumption)]; first | done | rfl)
                  | (rw [pc_other (fun q => by have q1 := q.1; have q2 := q.2; simp_all) (fun q => by have q1 := q.1; have q2 := q.2; first | omega | simp_all) (hnk i (by omega)) (fun _ => by omega)]; first | (rw [if_pos (by omega)]; first | done | rfl) | (rw [if_neg (by omega)]; first | done | rfl))
              ·skip
               refine xA tb hM0 9 [1,2,5,6,8] [] rfl ?_
               refine cx ?_
               try simp only [Int.toNat_zero] at *
               first
                 | (rw [pc_star1 (by assumption) (by omega) (h5 i (by omega) (by omega)) (hnk2 i (by omega) (h5 i (by omega) (by omega))) (by assumption)]; first | done | rfl)
                 | (rw [pc_star0 (by assumption) (by omega) (hnk2 i (by omega) (h5 i (by omega) (by omega))) (by assumption)]; first | done | rfl)
                 | (rw [pc_par1 (by assumption) (hnk i (by omega)) (by assumption)]; first | done | rfl)
                 | (rw [pc_other (fun q => by have q1 := q.1; have q2 := q.2; simp_all) (fun q => by have q1 := q.1; have q2 := q.2; first | omega | simp_all) (hnk i (by omega)) (fun _ => by omega)]; first | (rw [if_pos (by omega)]; first | done | rfl) | (rw [if_neg (by omega)]; first | done | rfl))
          ·rintro zs ⟨rfl⟩
           refine xA tb hM0 3 [1,2,6,121,122] [] rfl ?_
           refine oP rfl (pure_sadd rfl rfl rfl (by have := hal i (by omega); have := hsep i; have := hpc i; have := hkl i (by omega); have := htl (r.kids.getD i default); (try simp only [List.length_append, List.length_cons, List.length_nil]); omega)) ?_
           refine xA tb hM0 6 [1,2,5,25] [] rfl ?_
           refine oP rfl (pure_addi rfl rfl rfl (by omega)) ?_
           refine xA tb hM0 2 [1,2,5,6] [] rfl ?_
           refine nx ?_
           exact ⟨_, ⟨i + 1, rfl, by omega, by rw [accT_succ (by omega)]; rfl⟩, by omega⟩
       ·skip
        refine xA tb hM0 15 [1,2,5,6,7,8,9] [7] rfl ?_
        refine ct (fun zs => zs = ⟨130, [(1, .v .pl (letters a)), (2, .v .pl (rpc r)), (5, .v .pl (sbytes (sepT a r i))), (6, .v .pl (int i)), (7, .pbox 7 0), (8, .v .pl (sbytes (textR a (r.kids.getD i default)))), (9, .v .pl (bool (aptB a r i)))], [(7, .box 25 [.v .pl (int ((r.kids.getD i default)).kind), .v .pl (ints ((r.kids.getD i default)).syms), .v .pl (.sl (Rx.avs ((r.kids.getD i default)).kids))])]⟩) ?_ ?_
        ·skip
         refine xA tb hM0 7 [1,2,5,6,7,8,9] [7] rfl ?_
         refine cx ?_
         have ei : ((i : Int) - 1).toNat = i - 1 := by omega
         first
           | (exfalso; omega)
           | (rw [aptB_n (by omega)]; first | done | rfl | (rw [decide_eq_false (show ¬ (0 : Int) < (i : Int) by omega)]; first | done | rfl) | (rw [decide_eq_false (show ¬ (i : Int) > 0 by omega)]; first | done | rfl))
           | (rw [aptB_f (by omega) (by omega) (hnk _ (by omega)) (by rw [← ei]; assumption), show oneB a (r.kids.getD ((i : Int) - 1).toNat default) = false by assumption]; first | done | rfl)
           | (rw [aptB_t hA (by omega) (by omega) (hnk _ (by omega)) (by rw [← ei]; assumption), ← ei]; first | done | rfl)
        ·rintro zs ⟨rfl⟩
         refine ct (fun zs => zs = ⟨130, [(1, .v .pl (letters a)), (2, .v .pl (rpc r)), (5, .v .pl (sbytes (sepT a r i))), (6, .v .pl (int i)), (8, .v .pl (sbytes (pcT a r i)))], []⟩) ?_ ?_
         ·skip
          refine xA tb hM0 4 [1,2,5,6,7,8,9,73] [7] rfl ?_
          refine spO 73 rfl ?_ ?_ <;> intro h72' <;> try simp only [dq] at h72'
          ·skip
           refine xA tb hM0 6 [1,2,5,6,7,8,9,77] [7] rfl ?_
           refine spC 77 rfl ?_ ?_ <;> intro h73 <;> try simp only [dq] at h73
           ·skip
            refine xA tb hM0 4 [1,2,5,6,7,8,78] [7] rfl ?_
            refine oP rfl (pure_avs (pure_load_box rfl ag23 rfl rfl rfl)) ?_
            refine oP rfl (pure_ix rfl Tryz.underlying23 sz25 rfl rfl (by have := h5 i (by omega) (by omega); omega) (fun _ => rfl)) ?_
            refine xA tb hM0 2 [1,2,5,6,7,8,81,82] [7] rfl ?_
            refine oP rfl (pure_call rfl rfl rfl (rletter_call) hM0) ?_
            refine xA tb hM0 2 [1,2,5,6,7,8,83] [7] rfl ?_
            refine spC 83 rfl ?_ ?_ <;> intro h74 <;> try simp only [dq] at h74
            ·skip
             refine xA tb hM0 3 [1,2,5,6,84] [7] rfl ?_
             refine oP rfl (pure_avs (pure_load_box rfl ag23 rfl rfl rfl)) ?_
             refine oP rfl (pure_ix rfl Tryz.underlying23 sz25 rfl rfl (by have := h5 i (by omega) (by omega); omega) (fun _ => rfl)) ?_
             refine xA tb hM0 2 [1,2,5,6,87,88] [] rfl ?_
             refine oP rfl (pure_callW hdr rfl rfl rfl (kb2 i (by omega) (h5 i (by omega) (by omega))) hM0) ?_
             refine oP rfl (pure_sadd rfl rfl rfl (by have := hkl2 i (by omega) (h5 i (by omega) (by omega)); have := htl ((r.kids.getD i default).kids.getD 0 default); (try simp only [List.length_append, List.length_cons, List.length_nil]); omega)) ?_
             refine xA tb hM0 0 [1,2,5,6,90] [] rfl ?_
             refine oP rfl (pure_sadd rfl rfl rfl (by have := hkl2 i (by omega) (h5 i (by omega) (by omega)); have := htl ((r.kids.getD i default).kids.getD 0 default); (try simp only [List.length_append, List.length_cons, List.length_nil]); omega)) ?_
             refine xA tb hM0 2 [1,2,5,6,8] [] rfl ?_
             refine cx ?_
             try simp only [Int.toNat_zero] at *
             first
               | (rw [pc_star1 (by assumption) (by omega) (h5 i (by omega) (by omega)) (hnk2 i (by omega) (h5 i (by omega) (by omega))) (by assumption)]; first | done | rfl)
               | (rw [pc_star0 (by assumption) (by omega) (hnk2 i (by omega) (h5 i (by omega) (by omega))) (by assumption)]; first | done | rfl)
               | (rw [pc_par1 (by assumption) (hnk i (by omega)) (by assumption)]; first | done | rfl)
               | (rw [pc_other (fun q => by have q1 := q.1; have q2 := q.2; simp_all) (fun q => by have q1 := q.1; have q2 := q.2; first | omega | simp_all) (hnk i (by omega)) (fun _ => by omega)]; first | (rw [if_pos (by omega)]; first | done | rfl) | (rw [if_neg (by omega)]; first | done | rfl))
            ·skip
             refine xA tb hM0 2 [1,2,5,6,8] [] rfl ?_
             refine cx ?_
             try simp only [Int.toNat_zero] at *
             first
               | (rw [pc_star1 (by assumption) (by omega) (h5 i (by omega) (by omega)) (hnk2 i (by omega) (h5 i (by omega) (by omega))) (by assumption)]; first | done | rfl)
               | (rw [pc_star0 (by assumption) (by omega) (hnk2 i (by omega) (h5 i (by omega) (by omega))) (by assumption)]; first | done | rfl)
               | (rw [pc_par1 (by assumption) (hnk i (by omega)) (by assumption)]; first | done | rfl)
               | (rw [pc_other (fun q => by have q1 := q.1; have q2 := q.2; simp_all) (fun q => by have q1 := q.1; have q2 := q.2; first | omega | simp_all) (hnk i (by omega)) (fun _ => by omega)]; first | (rw [if_pos (by omega)]; first | done | rfl) | (rw [if_neg (by omega)]; first | done | rfl))
           ·skip
            refine xA tb hM0 5 [1,2,5,6,7,8,93] [7] rfl ?_
            refine spO 93 rfl ?_ ?_ <;> intro h75' <;> try simp only [dq] at h75'
            ·skip
             refine xA tb hM0 2 [1,2,5,6,7,8,93,94,95] [7] rfl ?_
             refine oP rfl (pure_call rfl rfl rfl (rletter_call) hM0) ?_
             refine xA tb hM0 2 [1,2,5,6,7,8,98] [7] rfl ?_
             refine spO 98 rfl ?_ ?_ <;> intro h76' <;> try simp only [dq] at h76'
             ·skip
              refine xA tb hM0 24 [1,2,5,6,118] [] rfl ?_
              refine oP rfl (pure_sadd rfl rfl rfl (by have := hal i (by omega); have := hsep i; have := hpc i; have := hkl i (by omega); have := htl (r.kids.getD i default); (try simp only [List.length_append, List.length_cons, List.length_nil]); omega)) ?_
              refine oP rfl (pure_sadd rfl rfl rfl (by have := hal i (by omega); have := hsep i; have := hpc i; have := hkl i (by omega); have := htl (r.kids.getD i default); (try simp only [List.length_append, List.length_cons, List.length_nil]); omega)) ?_
              refine xA tb hM0 2 [1,2,5,6,8] [] rfl ?_
              refine cx ?_
              try simp only [Int.toNat_zero] at *
              first
                | (rw [pc_star1 (by assumption) (by omega) (h5 i (by omega) (by omega)) (hnk2 i (by omega) (h5 i (by omega) (by omega))) (by assumption)]; first | done | rfl)
                | (rw [pc_star0 (by assumption) (by omega) (hnk2 i (by omega) (h5 i (by omega) (by omega))) (by assumption)]; first | done | rfl)
                | (rw [pc_par1 (by assumption) (hnk i (by omega)) (by assumption)]; first | done | rfl)
                | (rw [pc_other (fun q => by have q1 := q.1; have q2 := q.2; simp_all) (fun q => by have q1 := q.1; have q2 := q.2; first | omega | simp_all) (hnk i (by omega)) (fun _ => by omega)]; first | (rw [if_pos (by omega)]; first | done | rfl) | (rw [if_neg (by omega)]; first | done | rfl))
             ·skip
              refine xA tb hM0 4 [1,2,5,6,7,8,98,102] [7] rfl ?_
              refine spO 102 rfl ?_ ?_ <;> intro h77' <;> try simp only [dq] at h77'
              ·skip
               refine xA tb hM0 6 [1,2,5,6,7,8,108] [7] rfl ?_
               refine spO 108 rfl ?_ ?_ <;> intro h78' <;> try simp only [dq] at h78'
               ·skip
                refine xA tb hM0 14 [1,2,5,6,118] [] rfl ?_
                refine oP rfl (pure_sadd rfl rfl rfl (by have := hal i (by omega); have := hsep i; have := hpc i; have := hkl i (by omega); have := htl (r.kids.getD i default); (try simp only [List.length_append, List.length_cons, List.length_nil]); omega)) ?_
                refine oP rfl (pure_sadd rfl rfl rfl (by have := hal i (by omega); have := hsep i; have := hpc i; have := hkl i (by omega); have := htl (r.kids.getD i default); (try simp only [List.length_append, List.length_cons, List.length_nil]); omega)) ?_
                refine xA tb hM0 2 [1,2,5,6,8] [] rfl ?_
                refine cx ?_
                try simp only [Int.toNat_zero] at *
                first
                  | (rw [pc_star1 (by assumption) (by omega) (h5 i (by omega) (by omega)) (hnk2 i (by omega) (h5 i (by omega) (by omega))) (by assumption)]; first | done | rfl)
                  | (rw [pc_star0 (by assumption) (by omega) (hnk2 i (by omega) (h5 i (by omega) (by omega))) (by assumption)]; first | done | rfl)
                  | (rw [pc_par1 (by assumption) (hnk i (by omega)) (by assumption)]; first | done | rfl)
                  | (rw [pc_other (fun q => by have q1 := q.1; have q2 := q.2; simp_all) (fun q => by have q1 := q.1; have q2 := q.2; first | omega | simp_all) (hnk i (by omega)) (fun _ => by omega)]; first | (rw [if_pos (by omega)]; first | done | rfl) | (rw [if_neg (by omega)]; first | done | rfl))
               ·skip
                refine xA tb hM0 4 [1,2,5,6,7,8,108,112] [7] rfl ?_
                refine spO 112 rfl ?_ ?_ <;> intro h79' <;> try simp only [dq] at h79'
                ·skip
                 refine xA tb hM0 7 [1,2,5,6,8,117] [] rfl ?_
                 refine spC 117 rfl ?_ ?_ <;> intro h80 <;> try simp only [dq] at h80
                 ·skip
                  refine xA tb hM0 3 [1,2,5,6,118] [] rfl ?_
                  refine oP rfl (pure_sadd rfl rfl rfl (by have := hal i (by omega); have := hsep i; have := hpc i; have := hkl i (by omega); have := htl (r.kids.getD i default); (try simp only [List.length_append, List.length_cons, List.length_nil]); omega)) ?_
                  refine oP rfl (pure_sadd rfl rfl rfl (by have := hal i (by omega); have := hsep i; have := hpc i; have := hkl i (by omega); have := htl (r.kids.getD i default); (try simp only [List.length_append, List.length_cons, List.length_nil]); omega)) ?_
                  refine xA tb hM0 2 [1,2,5,6,8] [] rfl ?_
                  refine cx ?_
                  try simp only [Int.toNat_zero] at *
                  first
                    | (rw [pc_star1 (by assumption) (by omega) (h5 i (by omega) (by omega)) (hnk2 i (by omega) (h5 i (by omega) (by omega))) (by assumption)]; first | done | rfl)
                    | (rw [pc_star0 (by assumption) (by omega) (hnk2 i (by omega) (h5 i (by omega) (by omega))) (by assumption)]; first | done | rfl)
                    | (rw [pc_par1 (by assumption) (hnk i (by omega)) (by assumption)]; first | done | rfl)
                    | (rw [pc_other (fun q => by have q1 := q.1; have q2 := q.2; simp_all) (fun q => by have q1 := q.1; have q2 := q.2; first | omega | simp_all) (hnk i (by omega)) (fun _ => by omega)]; first | (rw [if_pos (by omega)]; first | done | rfl) | (rw [if_neg (by omega)]; first | done | rfl))
                 ·skip
                  refine xA tb hM0 2 [1,2,5,6,8] [] rfl ?_
                  refine cx ?_
                  try simp only [Int.toNat_zero] at *
                  first
                    | (rw [pc_star1 (by assumption) (by omega) (h5 i (by omega) (by omega)) (hnk2 i (by omega) (h5 i (by omega) (by omega))) (by assumption)]; first | done | rfl)
                    | (rw [pc_star0 (by assumption) (by omega) (hnk2 i (by omega) (h5 i (by omega) (by omega))) (by assumption)]; first | done | rfl)
                    | (rw [pc_par1 (by assumption) (hnk i (by omega)) (by assumption)]; first | done | rfl)
                    | (rw [pc_other (fun q => by have q1 := q.1; have q2 := q.2; simp_all) (fun q => by have q1 := q.1; have q2 := q.2; first | omega | simp_all) (hnk i (by omega)) (fun _ => by omega)]; first | (rw [if_pos (by omega)]; first | done | rfl) | (rw [if_neg (by omega)]; first | done | rfl))
                ·skip
                 refine xA tb hM0 9 [1,2,5,6,8] [] rfl ?_
                 refine cx ?_
                 try simp only [Int.toNat_zero] at *
                 first
                   | (rw [pc_star1 (by assumption) (by omega) (h5 i (by omega) (by omega)) (hnk2 i (by omega) (h5 i (by omega) (by omega))) (by assumption)]; first | done | rfl)
                   | (rw [pc_star0 (by assumption) (by omega) (hnk2 i (by omega) (h5 i (by omega) (by omega))) (by assumption)]; first | done | rfl)
                   | (rw [pc_par1 (by assumption) (hnk i (by omega)) (by assumption)]; first | done | rfl)
                   | (rw [pc_other (fun q => by have q1 := q.1; have q2 := q.2; simp_all) (fun q => by have q1 := q.1; have q2 := q.2; first | omega | simp_all) (hnk i (by omega)) (fun _ => by omega)]; first | (rw [if_pos (by omega)]; first | done | rfl) | (rw [if_neg (by omega)]; first | done | rfl))
              ·skip
               refine xA tb hM0 10 [1,2,5,6,7,8,108,112] [7] rfl ?_
               refine spO 112 rfl ?_ ?_ <;> intro h81' <;> try simp only [dq] at h81'
               ·skip
                refine xA tb hM0 7 [1,2,5,6,8,117] [] rfl ?_
                refine spC 117 rfl ?_ ?_ <;> intro h82 <;> try simp only [dq] at h82
                ·skip
                 refine xA tb hM0 3 [1,2,5,6,118] [] rfl ?_
                 refine oP rfl (pure_sadd rfl rfl rfl (by have := hal i (by omega); have := hsep i; have := hpc i; have := hkl i (by omega); have := htl (r.kids.getD i default); (try simp only [List.length_append, List.length_cons, List.length_nil]); omega)) ?_
                 refine oP rfl (pure_sadd rfl rfl rfl (by have := hal i (by omega); have := hsep i; have := hpc i; have := hkl i (by omega); have := htl (r.kids.getD i default); (try simp only [List.length_append, List.length_cons, List.length_nil]); omega)) ?_
                 refine xA tb hM0 2 [1,2,5,6,8] [] rfl ?_
                 refine cx ?_
                 try simp only [Int.toNat_zero] at *
                 first
                   | (rw [pc_star1 (by assumption) (by omega) (h5 i (by omega) (by omega)) (hnk2 i (by omega) (h5 i (by omega) (by omega))) (by assumption)]; first | done | rfl)
                   | (rw [pc_star0 (by assumption) (by omega) (hnk2 i (by omega) (h5 i (by omega) (by omega))) (by assumption)]; first | done | rfl)
                   | (rw [pc_par1 (by assumption) (hnk i (by omega)) (by assumption)]; first | done | rfl)
                   | (rw [pc_other (fun q => by have q1 := q.1; have q2 := q.2; simp_all) (fun q => by have q1 := q.1; have q2 := q.2; first | omega | simp_all) (hnk i (by omega)) (fun _ => by omega)]; first | (rw [if_pos (by omega)]; first | done | rfl) | (rw [if_neg (by omega)]; first | done | rfl))
                ·skip
                 refine xA tb hM0 2 [1,2,5,6,8] [] rfl ?_
                 refine cx ?_
                 try simp only [Int.toNat_zero] at *
                 first
                   | (rw [pc_star1 (by assumption) (by omega) (h5 i (by omega) (by omega)) (hnk2 i (by omega) (h5 i (by omega) (by omega))) (by assumption)]; first | done | rfl)
                   | (rw [pc_star0 (by assumption) (by omega) (hnk2 i (by omega) (h5 i (by omega) (by omega))) (by assumption)]; first | done | rfl)
                   | (rw [pc_par1 (by assumption) (hnk i (by omega)) (by assumption)]; first | done | rfl)
                   | (rw [pc_other (fun q => by have q1 := q.1; have q2 := q.2; simp_all) (fun q => by have q1 := q.1; have q2 := q.2; first | omega | simp_all) (hnk i (by omega)) (fun _ => by omega)]; first | (rw [if_pos (by omega)]; first | done | rfl) | (rw [if_neg (by omega)]; first | done | rfl))
               ·skip
                refine xA tb hM0 9 [1,2,5,6,8] [] rfl ?_
                refine cx ?_
                try simp only [Int.toNat_zero] at *
                first
                  | (rw [pc_star1 (by assumption) (by omega) (h5 i (by omega) (by omega)) (hnk2 i (by omega) (h5 i (by omega) (by omega))) (by assumption)]; first | done | rfl)
                  | (rw [pc_star0 (by assumption) (by omega) (hnk2 i (by omega) (h5 i (by omega) (by omega))) (by assumption)]; first | done | rfl)
                  | (rw [pc_par1 (by assumption) (hnk i (by omega)) (by assumption)]; first | done | rfl)
                  | (rw [pc_other (fun q => by have q1 := q.1; have q2 := q.2; simp_all) (fun q => by have q1 := q.1; have q2 := q.2; first | omega | simp_all) (hnk i (by omega)) (fun _ => by omega)]; first | (rw [if_pos (by omega)]; first | done | rfl) | (rw [if_neg (by omega)]; first | done | rfl))
            ·skip
             refine xA tb hM0 9 [1,2,5,6,7,8,98,102] [7] rfl ?_
             refine spO 102 rfl ?_ ?_ <;> intro h83' <;> try simp only [dq] at h83'
             ·skip
              refine xA tb hM0 6 [1,2,5,6,7,8,108] [7] rfl ?_
              refine spO 108 rfl ?_ ?_ <;> intro h84' <;> try simp only [dq] at h84'
              ·skip
               refine xA tb hM0 14 [1,2,5,6,118] [] rfl ?_
               refine oP rfl (pure_sadd rfl rfl rfl (by have := hal i (by omega); have := hsep i; have := hpc i; have := hkl i (by omega); have := htl (r.kids.getD i default); (try simp only [List.length_append, List.length_cons, List.length_nil]); omega)) ?_
               refine oP rfl (pure_sadd rfl rfl rfl (by have := hal i (by omega); have := hsep i; have := hpc i; have := hkl i (by omega); have := htl (r.kids.getD i default); (try simp only [List.length_append, List.length_cons, List.length_nil]); omega)) ?_
               refine xA tb hM0 2 [1,2,5,6,8] [] rfl ?_
               refine cx ?_
               try simp only [Int.toNat_zero] at *
               first
                 | (rw [pc_star1 (by assumption) (by omega) (h5 i (by omega) (by omega)) (hnk2 i (by omega) (h5 i (by omega) (by omega))) (by assumption)]; first | done | rfl)
                 | (rw [pc_star0 (by assumption) (by omega) (hnk2 i (by omega) (h5 i (by omega) (by omega))) (by assumption)]; first | done | rfl)
                 | (rw [pc_par1 (by assumption) (hnk i (by omega)) (by assumption)]; first | done | rfl)
                 | (rw [pc_other (fun q => by have q1 := q.1; have q2 := q.2; simp_all) (fun q => by have q1 := q.1; have q2 := q.2; first | omega | simp_all) (hnk i (by omega)) (fun _ => by omega)]; first | (rw [if_pos (by omega)]; first | done | rfl) | (rw [if_neg (by omega)]; first | done | rfl))
              ·skip
               refine xA tb hM0 4 [1,2,5,6,7,8,108,112] [7] rfl ?_
               refine spO 112 rfl ?_ ?_ <;> intro h85' <;> try simp only [dq] at h85'
               ·skip
                refine xA tb hM0 7 [1,2,5,6,8,117] [] rfl ?_
                refine spC 117 rfl ?_ ?_ <;> intro h86 <;> try simp only [dq] at h86
                ·skip
                 refine xA tb hM0 3 [1,2,5,6,118] [] rfl ?_
                 refine oP rfl (pure_sadd rfl rfl rfl (by have := hal i (by omega); have := hsep i; have := hpc i; have := hkl i (by omega); have := htl (r.kids.getD i default); (try simp only [List.length_append, List.length_cons, List.length_nil]); omega)) ?_
                 refine oP rfl (pure_sadd rfl rfl rfl (by have := hal i (by omega); have := hsep i; have := hpc i; have := hkl i (by omega); have := htl (r.kids.getD i default); (try simp only [List.length_append, List.length_cons, List.length_nil]); omega)) ?_
                 refine xA tb hM0 2 [1,2,5,6,8] [] rfl ?_
                 refine cx ?_
                 try simp only [Int.toNat_zero] at *
                 first
                   | (rw [pc_star1 (by assumption) (by omega) (h5 i (by omega) (by omega)) (hnk2 i (by omega) (h5 i (by omega) (by omega))) (by assumption)]; first | done | rfl)
                   | (rw [pc_star0 (by assumption) (by omega) (hnk2 i (by omega) (h5 i (by omega) (by omega))) (by assumption)]; first | done | rfl)
                   | (rw [pc_par1 (by assumption) (hnk i (by omega)) (by assumption)]; first | done | rfl)
                   | (rw [pc_other (fun q => by have q1 := q.1; have q2 := q.2; simp_all) (fun q => by have q1 := q.1; have q2 := q.2; first | omega | simp_all) (hnk i (by omega)) (fun _ => by omega)]; first | (rw [if_pos (by omega)]; first | done | rfl) | (rw [if_neg (by omega)]; first | done | rfl))
                ·skip
                 refine xA tb hM0 2 [1,2,5,6,8] [] rfl ?_
                 refine cx ?_
                 try simp only [Int.toNat_zero] at *
                 first
                   | (rw [pc_star1 (by assumption) (by omega) (h5 i (by omega) (by omega)) (hnk2 i (by omega) (h5 i (by omega) (by omega))) (by assumption)]; first | done | rfl)
                   | (rw [pc_star0 (by assumption) (by omega) (hnk2 i (by omega) (h5 i (by omega) (by omega))) (by assumption)]; first | done | rfl)
                   | (rw [pc_par1 (by assumption) (hnk i (by omega)) (by assumption)]; first | done | rfl)
                   | (rw [pc_other (fun q => by have q1 := q.1; have q2 := q.2; simp_all) (fun q => by have q1 := q.1; have q2 := q.2; first | omega | simp_all) (hnk i (by omega)) (fun _ => by omega)]; first | (rw [if_pos (by omega)]; first | done | rfl) | (rw [if_neg (by omega)]; first | done | rfl))
               ·skip
                refine xA tb hM0 9 [1,2,5,6,8] [] rfl ?_
                refine cx ?_
                try simp only [Int.toNat_zero] at *
                first
                  | (rw [pc_star1 (by assumption) (by omega) (h5 i (by omega) (by omega)) (hnk2 i (by omega) (h5 i (by omega) (by omega))) (by assumption)]; first | done | rfl)
                  | (rw [pc_star0 (by assumption) (by omega) (hnk2 i (by omega) (h5 i (by omega) (by omega))) (by assumption)]; first | done | rfl)
                  | (rw [pc_par1 (by assumption) (hnk i (by omega)) (by assumption)]; first | done | rfl)
                  | (rw [pc_other (fun q => by have q1 := q.1; have q2 := q.2; simp_all) (fun q => by have q1 := q.1; have q2 := q.2; first | omega | simp_all) (hnk i (by omega)) (fun _ => by omega)]; first | (rw [if_pos (by omega)]; first | done | rfl) | (rw [if_neg (by omega)]; first | done | rfl))
             ·skip
              refine xA tb hM0 10 [1,2,5,6,7,8,108,112] [7] rfl ?_
              refine spO 112 rfl ?_ ?_ <;> intro h87' <;> try simp only [dq] at h87'
              ·skip
               refine xA tb hM0 7 [1,2,5,6,8,117] [] rfl ?_
               refine spC 117 rfl ?_ ?_ <;> intro h88 <;> try simp only [dq] at h88
               ·skip
                refine xA tb hM0 3 [1,2,5,6,118] [] rfl ?_
                refine oP rfl (pure_sadd rfl rfl rfl (by have := hal i (by omega); have := hsep i; have := hpc i; have := hkl i (by omega); have := htl (r.kids.getD i default); (try simp only [List.length_append, List.length_cons, List.length_nil]); omega)) ?_
                refine oP rfl (pure_sadd rfl rfl rfl (by have := hal i (by omega); have := hsep i; have := hpc i; have := hkl i (by omega); have := htl (r.kids.getD i default); (try simp only [List.length_append, List.length_cons, List.length_nil]); omega)) ?_
                refine xA tb hM0 2 [1,2,5,6,8] [] rfl ?_
                refine cx ?_
                try simp only [Int.toNat_zero] at *
                first
                  | (rw [pc_star1 (by assumption) (by omega) (h5 i (by omega) (by omega)) (hnk2 i (by omega) (h5 i (by omega) (by omega))) (by assumption)]; first | done | rfl)
                  | (rw [pc_star0 (by assumption) (by omega) (hnk2 i (by omega) (h5 i (by omega) (by omega))) (by assumption)]; first | done | rfl)
                  | (rw [pc_par1 (by assumption) (hnk i (by omega)) (by assumption)]; first | done | rfl)
                  | (rw [pc_other (fun q => by have q1 := q.1; have q2 := q.2; simp_all) (fun q => by have q1 := q.1; have q2 := q.2; first | omega | simp_all) (hnk i (by omega)) (fun _ => by omega)]; first | (rw [if_pos (by omega)]; first | done | rfl) | (rw [if_neg (by omega)]; first | done | rfl))
               ·skip
                refine xA tb hM0 2 [1,2,5,6,8] [] rfl ?_
                refine cx ?_
                try simp only [Int.toNat_zero] at *
                first
                  | (rw [pc_star1 (by assumption) (by omega) (h5 i (by omega) (by omega)) (hnk2 i (by omega) (h5 i (by omega) (by omega))) (by assumption)]; first | done | rfl)
                  | (rw [pc_star0 (by assumption) (by omega) (hnk2 i (by omega) (h5 i (by omega) (by omega))) (by assumption)]; first | done | rfl)
                  | (rw [pc_par1 (by assumption) (hnk i (by omega)) (by assumption)]; first | done | rfl)
                  | (rw [pc_other (fun q => by have q1 := q.1; have q2 := q.2; simp_all) (fun q => by have q1 := q.1; have q2 := q.2; first | omega | simp_all) (hnk i (by omega)) (fun _ => by omega)]; first | (rw [if_pos (by omega)]; first | done | rfl) | (rw [if_neg (by omega)]; first | done | rfl))
              ·skip
               refine xA tb hM0 9 [1,2,5,6,8] [] rfl ?_
               refine cx ?_
               try simp only [Int.toNat_zero] at *
               first
                 | (rw [pc_star1 (by assumption) (by omega) (h5 i (by omega) (by omega)) (hnk2 i (by omega) (h5 i (by omega) (by omega))) (by assumption)]; first | done | rfl)
                 | (rw [pc_star0 (by assumption) (by omega) (hnk2 i (by omega) (h5 i (by omega) (by omega))) (by assumption)]; first | done | rfl)
                 | (rw [pc_par1 (by assumption) (hnk i (by omega)) (by assumption)]; first | done | rfl)
                 | (rw [pc_other (fun q => by have q1 := q.1; have q2 := q.2; simp_all) (fun q => by have q1 := q.1; have q2 := q.2; first | omega | simp_all) (hnk i (by omega)) (fun _ => by omega)]; first | (rw [if_pos (by omega)]; first | done | rfl) | (rw [if_neg (by omega)]; first | done | rfl))
          ·skip
           refine xA tb hM0 11 [1,2,5,6,7,8,93] [7] rfl ?_
           refine spO 93 rfl ?_ ?_ <;> intro h89' <;> try simp only [dq] at h89'
           ·skip
            refine xA tb hM0 2 [1,2,5,6,7,8,93,94,95] [7] rfl ?_
            refine oP rfl (pure_call rfl rfl rfl (rletter_call) hM0) ?_
            refine xA tb hM0 2 [1,2,5,6,7,8,98] [7] rfl ?_
            refine spO 98 rfl ?_ ?_ <;> intro h90' <;> try simp only [dq] at h90'
            ·skip
             refine xA tb hM0 24 [1,2,5,6,118] [] rfl ?_
             refine oP rfl (pure_sadd rfl rfl rfl (by have := hal i (by omega); have := hsep i; have := hpc i; have := hkl i (by omega); have := htl (r.kids.getD i default); (try simp only [List.length_append, List.length_cons, List.length_nil]); omega)) ?_
             refine oP rfl (pure_sadd rfl rfl rfl (by have := hal i (by omega); have := hsep i; have := hpc i; have := hkl i (by omega); have := htl (r.kids.getD i default); (try simp only [List.length_append, List.length_cons, List.length_nil]); omega)) ?_
             refine xA tb hM0 2 [1,2,5,6,8] [] rfl ?_
             refine cx ?_
             try simp only [Int.toNat_zero] at *
             first
               | (rw [pc_star1 (by assumption) (by omega) (h5 i (by omega) (by omega)) (hnk2 i (by omega) (h5 i (by omega) (by omega))) (by assumption)]; first | done | rfl)
               | (rw [pc_star0 (by assumption) (by omega) (hnk2 i (by omega) (h5 i (by omega) (by omega))) (by assumption)]; first | done | rfl)
               | (rw [pc_par1 (by assumption) (hnk i (by omega)) (by assumption)]; first | done | rfl)
               | (rw [pc_other (fun q => by have q1 := q.1; have q2 := q.2; simp_all) (fun q => by have q1 := q.1; have q2 := q.2; first | omega | simp_all) (hnk i (by omega)) (fun _ => by omega)]; first | (rw [if_pos (by omega)]; first | done | rfl) | (rw [if_neg (by omega)]; first | done | rfl))
            ·skip
             refine xA tb hM0 4 [1,2,5,6,7,8,98,102] [7] rfl ?_
             refine spO 102 rfl ?_ ?_ <;> intro h91' <;> try simp only [dq] at h91'
             ·skip
              refine xA tb hM0 6 [1,2,5,6,7,8,108] [7] rfl ?_
              refine spO 108 rfl ?_ ?_ <;> intro h92' <;> try simp only [dq] at h92'
              ·skip
               refine xA tb hM0 14 [1,2,5,6,118] [] rfl ?_
               refine oP rfl (pure_sadd rfl rfl rfl (by have := hal i (by omega); have := hsep i; have := hpc i; have := hkl i (by omega); have := htl (r.kids.getD i default); (try simp only [List.length_append, List.length_cons, List.length_nil]); omega)) ?_
               refine oP rfl (pure_sadd rfl rfl rfl (by have := hal i (by omega); have := hsep i; have := hpc i; have := hkl i (by omega); have := htl (r.kids.getD i default); (try simp only [List.length_append, List.length_cons, List.length_nil]); omega)) ?_
               refine xA tb hM0 2 [1,2,5,6,8] [] rfl ?_
               refine cx ?_
               try simp only [Int.toNat_zero] at *
               first
                 | (rw [pc_star1 (by assumption) (by omega) (h5 i (by omega) (by omega)) (hnk2 i (by omega) (h5 i (by omega) (by omega))) (by assumption)]; first | done | rfl)
                 | (rw [pc_star0 (by assumption) (by omega) (hnk2 i (by omega) (h5 i (by omega) (by omega))) (by assumption)]; first | done | rfl)
                 | (rw [pc_par1 (by assumption) (hnk i (by omega)) (by assumption)]; first | done | rfl)
                 | (rw [pc_other (fun q => by have q1 := q.1; have q2 := q.2; simp_all) (fun q => by have q1 := q.1; have q2 := q.2; first | omega | simp_all) (hnk i (by omega)) (fun _ => by omega)]; first | (rw [if_pos (by omega)]; first | done | rfl) | (rw [if_neg (by omega)]; first | done | rfl))
              ·skip
               refine xA tb hM0 4 [1,2,5,6,7,8,108,112] [7] rfl ?_
               refine spO 112 rfl ?_ ?_ <;> intro h93' <;> try simp only [dq] at h93'
               ·skip
                refine xA tb hM0 7 [1,2,5,6,8,117] [] rfl ?_
                refine spC 117 rfl ?_ ?_ <;> intro h94 <;> try simp only [dq] at h94
                ·skip
                 refine xA tb hM0 3 [1,2,5,6,118] [] rfl ?_
                 refine oP rfl (pure_sadd rfl rfl rfl (by have := hal i (by omega); have := hsep i; have := hpc i; have := hkl i (by omega); have := htl (r.kids.getD i default); (try simp only [List.length_append, List.length_cons, List.length_nil]); omega)) ?_
                 refine oP rfl (pure_sadd rfl rfl rfl (by have := hal i (by omega); have := hsep i; have := hpc i; have := hkl i (by omega); have := htl (r.kids.getD i default); (try simp only [List.length_append, List.length_cons, List.length_nil]); omega)) ?_
                 refine xA tb hM0 2 [1,2,5,6,8] [] rfl ?_
                 refine cx ?_
                 try simp only [Int.toNat_zero] at *
                 first
                   | (rw [pc_star1 (by assumption) (by omega) (h5 i (by omega) (by omega)) (hnk2 i (by omega) (h5 i (by omega) (by omega))) (by assumption)]; first | done | rfl)
                   | (rw [pc_star0 (by assumption) (by omega) (hnk2 i (by omega) (h5 i (by omega) (by omega))) (by assumption)]; first | done | rfl)
                   | (rw [pc_par1 (by assumption) (hnk i (by omega)) (by assumption)]; first | done | rfl)
                   | (rw [pc_other (fun q => by have q1 := q.1; have q2 := q.2; simp_all) (fun q => by have q1 := q.1; have q2 := q.2; first | omega | simp_all) (hnk i (by omega)) (fun _ => by omega)]; first | (rw [if_pos (by omega)]; first | done | rfl) | (rw [if_neg (by omega)]; first | done | rfl))
                ·skip
                 refine xA tb hM0 2 [1,2,5,6,8] [] rfl ?_
                 refine cx ?_
                 try simp only [Int.toNat_zero] at *
                 first
                   | (rw [pc_star1 (by assumption) (by omega) (h5 i (by omega) (by omega)) (hnk2 i (by omega) (h5 i (by omega) (by omega))) (by assumption)]; first | done | rfl)
                   | (rw [pc_star0 (by assumption) (by omega) (hnk2 i (by omega) (h5 i (by omega) (by omega))) (by assumption)]; first | done | rfl)
                   | (rw [pc_par1 (by assumption) (hnk i (by omega)) (by assumption)]; first | done | rfl)
                   | (rw [pc_other (fun q => by have q1 := q.1; have q2 := q.2; simp_all) (fun q => by have q1 := q.1; have q2 := q.2; first | omega | simp_all) (hnk i (by omega)) (fun _ => by omega)]; first | (rw [if_pos (by omega)]; first | done | rfl) | (rw [if_neg (by omega)]; first | done | rfl))
               ·skip
                refine xA tb hM0 9 [1,2,5,6,8] [] rfl ?_
                refine cx ?_
                try simp only [Int.toNat_zero] at *
                first
                  | (rw [pc_star1 (by assumption) (by omega) (h5 i (by omega) (by omega)) (hnk2 i (by omega) (h5 i (by omega) (by omega))) (by assumption)]; first | done | rfl)
                  | (rw [pc_star0 (by assumption) (by omega) (hnk2 i (by omega) (h5 i (by omega) (by omega))) (by assumption)]; first | done | rfl)
                  | (rw [pc_par1 (by assumption) (hnk i (by omega)) (by assumption)]; first | done | rfl)
                  | (rw [pc_other (fun q => by have q1 := q.1; have q2 := q.2; simp_all) (fun q => by have q1 := q.1; have q2 := q.2; first | omega | simp_all) (hnk i (by omega)) (fun _ => by omega)]; first | (rw [if_pos (by omega)]; first | done | rfl) | (rw [if_neg (by omega)]; first | done | rfl))
             ·skip
              refine xA tb hM0 10 [1,2,5,6,7,8,108,112] [7] rfl ?_
              refine spO 112 rfl ?_ ?_ <;> intro h95' <;> try simp only [dq] at h95'
              ·skip
               refine xA tb hM0 7 [1,2,5,6,8,117] [] rfl ?_
               refine spC 117 rfl ?_ ?_ <;> intro h96 <;> try simp only [dq] at h96
               ·skip
                refine xA tb hM0 3 [1,2,5,6,118] [] rfl ?_
                refine oP rfl (pure_sadd rfl rfl rfl (by have := hal i (by omega); have := hsep i; have := hpc i; have := hkl i (by omega); have := htl (r.kids.getD i default); (try simp only [List.length_append, List.length_cons, List.length_nil]); omega)) ?_
                refine oP rfl (pure_sadd rfl rfl rfl (by have := hal i (by omega); have := hsep i; have := hpc i; have := hkl i (by omega); have := htl (r.kids.getD i default); (try simp only [List.length_append, List.length_cons, List.length_nil]); omega)) ?_
                refine xA tb hM0 2 [1,2,5,6,8] [] rfl ?_
                refine cx ?_
                try simp only [Int.toNat_zero] at *
                first
                  | (rw [pc_star1 (by assumption) (by omega) (h5 i (by omega) (by omega)) (hnk2 i (by omega) (h5 i (by omega) (by omega))) (by assumption)]; first | done | rfl)
                  | (rw [pc_star0 (by assumption) (by omega) (hnk2 i (by omega) (h5 i (by omega) (by omega))) (by assumption)]; first | done | rfl)
                  | (rw [pc_par1 (by assumption) (hnk i (by omega)) (by assumption)]; first | done | rfl)
                  | (rw [pc_other (fun q => by have q1 := q.1; have q2 := q.2; simp_all) (fun q => by have q1 := q.1; have q2 := q.2; first | omega | simp_all) (hnk i (by omega)) (fun _ => by omega)]; first | (rw [if_pos (by omega)]; first | done | rfl) | (rw [if_neg (by omega)]; first | done | rfl))
               ·skip
                refine xA tb hM0 2 [1,2,5,6,8] [] rfl ?_
                refine cx ?_
                try simp only [Int.toNat_zero] at *
                first
                  | (rw [pc_star1 (by assumption) (by omega) (h5 i (by omega) (by omega)) (hnk2 i (by omega) (h5 i (by omega) (by omega))) (by assumption)]; first | done | rfl)
                  | (rw [pc_star0 (by assumption) (by omega) (hnk2 i (by omega) (h5 i (by omega) (by omega))) (by assumption)]; first | done | rfl)
                  | (rw [pc_par1 (by assumption) (hnk i (by omega)) (by assumption)]; first | done | rfl)
                  | (rw [pc_other (fun q => by have q1 := q.1; have q2 := q.2; simp_all) (fun q => by have q1 := q.1; have q2 := q.2; first | omega | simp_all) (hnk i (by omega)) (fun _ => by omega)]; first | (rw [if_pos (by omega)]; first | done | rfl) | (rw [if_neg (by omega)]; first | done | rfl))
              ·skip
               refine xA tb hM0 9 [1,2,5,6,8] [] rfl ?_
               refine cx ?_
               try simp only [Int.toNat_zero] at *
               first
                 | (rw [pc_star1 (by assumption) (by omega) (h5 i (by omega) (by omega)) (hnk2 i (by omega) (h5 i (by omega) (by omega))) (by assumption)]; first | done | rfl)
                 | (rw [pc_star0 (by assumption) (by omega) (hnk2 i (by omega) (h5 i (by omega) (by omega))) (by assumption)]; first | done | rfl)
                 | (rw [pc_par1 (by assumption) (hnk i (by omega)) (by assumption)]; first | done | rfl)
                 | (rw [pc_other (fun q => by have q1 := q.1; have q2 := q.2; simp_all) (fun q => by have q1 := q.1; have q2 := q.2; first | omega | simp_all) (hnk i (by omega)) (fun _ => by omega)]; first | (rw [if_pos (by omega)]; first | done | rfl) | (rw [if_neg (by omega)]; first | done | rfl))
           ·skip
            refine xA tb hM0 9 [1,2,5,6,7,8,98,102] [7] rfl ?_
            refine spO 102 rfl ?_ ?_ <;> intro h97' <;> try simp only [dq] at h97'
            ·skip
             refine xA tb hM0 6 [1,2,5,6,7,8,108] [7] rfl ?_
             refine spO 108 rfl ?_ ?_ <;> intro h98' <;> try simp only [dq] at h98'
             ·skip
              refine xA tb hM0 14 [1,2,5,6,118] [] rfl ?_
              refine oP rfl (pure_sadd rfl rfl rfl (by have := hal i (by omega); have := hsep i; have := hpc i; have := hkl i (by omega); have := htl (r.kids.getD i default); (try simp only [List.length_append, List.length_cons, List.length_nil]); omega)) ?_
              refine oP rfl (pure_sadd rfl rfl rfl (by have := hal i (by omega); have := hsep i; have := hpc i; have := hkl i (by omega); have := htl (r.kids.getD i default); (try simp only [List.length_append, List.length_cons, List.length_nil]); omega)) ?_
              refine xA tb hM0 2 [1,2,5,6,8] [] rfl ?_
              refine cx ?_
              try simp only [Int.toNat_zero] at *
              first
                | (rw [pc_star1 (by assumption) (by omega) (h5 i (by omega) (by omega)) (hnk2 i (by omega) (h5 i (by omega) (by omega))) (by assumption)]; first | done | rfl)
                | (rw [pc_star0 (by assumption) (by omega) (hnk2 i (by omega) (h5 i (by omega) (by omega))) (by assumption)]; first | done | rfl)
                | (rw [pc_par1 (by assumption) (hnk i (by omega)) (by assumption)]; first | done | rfl)
                | (rw [pc_other (fun q => by have q1 := q.1; have q2 := q.2; simp_all) (fun q => by have q1 := q.1; have q2 := q.2; first | omega | simp_all) (hnk i (by omega)) (fun _ => by omega)]; first | (rw [if_pos (by omega)]; first | done | rfl) | (rw [if_neg (by omega)]; first | done | rfl))
             ·skip
              refine xA tb hM0 4 [1,2,5,6,7,8,108,112] [7] rfl ?_
              refine spO 112 rfl ?_ ?_ <;> intro h99' <;> try simp only [dq] at h99'
              ·skip
               refine xA tb hM0 7 [1,2,5,6,8,117] [] rfl ?_
               refine spC 117 rfl ?_ ?_ <;> intro h100 <;> try simp only [dq] at h100
               ·skip
                refine xA tb hM0 3 [1,2,5,6,118] [] rfl ?_
                refine oP rfl (pure_sadd rfl rfl rfl (by have := hal i (by omega); have := hsep i; have := hpc i; have := hkl i (by omega); have := htl (r.kids.getD i default); (try simp only [List.length_append, List.length_cons, List.length_nil]); omega)) ?_
                refine oP rfl (pure_sadd rfl rfl rfl (by have := hal i (by omega); have := hsep i; have := hpc i; have := hkl i (by omega); have := htl (r.kids.getD i default); (try simp only [List.length_append, List.length_cons, List.length_nil]); omega)) ?_
                refine xA tb hM0 2 [1,2,5,6,8] [] rfl ?_
                refine cx ?_
                try simp only [Int.toNat_zero] at *
                first
                  | (rw [pc_star1 (by assumption) (by omega) (h5 i (by omega) (by omega)) (hnk2 i (by omega) (h5 i (by omega) (by omega))) (by assumption)]; first | done | rfl)
                  | (rw [pc_star0 (by assumption) (by omega) (hnk2 i (by omega) (h5 i (by omega) (by omega))) (by assumption)]; first | done | rfl)
                  | (rw [pc_par1 (by assumption) (hnk i (by omega)) (by assumption)]; first | done | rfl)
                  | (rw [pc_other (fun q => by have q1 := q.1; have q2 := q.2; simp_all) (fun q => by have q1 := q.1; have q2 := q.2; first | omega | simp_all) (hnk i (by omega)) (fun _ => by omega)]; first | (rw [if_pos (by omega)]; first | done | rfl) | (rw [if_neg (by omega)]; first | done | rfl))
               ·skip
                refine xA tb hM0 2 [1,2,5,6,8] [] rfl ?_
                refine cx ?_
                try simp only [Int.toNat_zero] at *
                first
                  | (rw [pc_star1 (by assumption) (by omega) (h5 i (by omega) (by omega)) (hnk2 i (by omega) (h5 i (by omega) (by omega))) (by assumption)]; first | done | rfl)
                  | (rw [pc_star0 (by assumption) (by omega) (hnk2 i (by omega) (h5 i (by omega) (by omega))) (by assumption)]; first | done | rfl)
                  | (rw [pc_par1 (by assumption) (hnk i (by omega)) (by assumption)]; first | done | rfl)
                  | (rw [pc_other (fun q => by have q1 := q.1; have q2 := q.2; simp_all) (fun q => by have q1 := q.1; have q2 := q.2; first | omega | simp_all) (hnk i (by omega)) (fun _ => by omega)]; first | (rw [if_pos (by omega)]; first | done | rfl) | (rw [if_neg (by omega)]; first | done | rfl))
              ·skip
               refine xA tb hM0 9 [1,2,5,6,8] [] rfl ?_
               refine cx ?_
               try simp only [Int.toNat_zero] at *
               first
                 | (rw [pc_star1 (by assumption) (by omega) (h5 i (by omega) (by omega)) (hnk2 i (by omega) (h5 i (by omega) (by omega))) (by assumption)]; first | done | rfl)
                 | (rw [pc_star0 (by assumption) (by omega) (hnk2 i (by omega) (h5 i (by omega) (by omega))) (by assumption)]; first | done | rfl)
                 | (rw [pc_par1 (by assumption) (hnk i (by omega)) (by assumption)]; first | done | rfl)
                 | (rw [pc_other (fun q => by have q1 := q.1; have q2 := q.2; simp_all) (fun q => by have q1 := q.1; have q2 := q.2; first | omega | simp_all) (hnk i (by omega)) (fun _ => by omega)]; first | (rw [if_pos (by omega)]; first | done | rfl) | (rw [if_neg (by omega)]; first | done | rfl))
            ·skip
             refine xA tb hM0 10 [1,2,5,6,7,8,108,112] [7] rfl ?_
             refine spO 112 rfl ?_ ?_ <;> intro h101' <;> try simp only [dq] at h101'
             ·skip
              refine xA tb hM0 7 [1,2,5,6,8,117] [] rfl ?_
              refine spC 117 rfl ?_ ?_ <;> intro h102 <;> try simp only [dq] at h102
              ·skip
               refine xA tb hM0 3 [1,2,5,6,118] [] rfl ?_
               refine oP rfl (pure_sadd rfl rfl rfl (by have := hal i (by omega); have := hsep i; have := hpc i; have := hkl i (by omega); have := htl (r.kids.getD i default); (try simp only [List.length_append, List.length_cons, List.length_nil]); omega)) ?_
               refine oP rfl (pure_sadd rfl rfl rfl (by have := hal i (by omega); have := hsep i; have := hpc i; have := hkl i (by omega); have := htl (r.kids.getD i default); (try simp only [List.length_append, List.length_cons, List.length_nil]); omega)) ?_
               refine xA tb hM0 2 [1,2,5,6,8] [] rfl ?_
               refine cx ?_
               try simp only [Int.toNat_zero] at *
               first
                 | (rw [pc_star1 (by assumption) (by omega) (h5 i (by omega) (by omega)) (hnk2 i (by omega) (h5 i (by omega) (by omega))) (by assumption)]; first | done | rfl)
                 | (rw [pc_star0 (by assumption) (by omega) (hnk2 i (by omega) (h5 i (by omega) (by omega))) (by assumption)]; first | done | rfl)
                 | (rw [pc_par1 (by assumption) (hnk i (by omega)) (by assumption)]; first | done | rfl)
                 | (rw [pc_other (fun q => by have q1 := q.1; have q2 := q.2; simp_all) (fun q => by have q1 := q.1; have q2 := q.2; first | omega | simp_all) (hnk i (by omega)) (fun _ => by omega)]; first | (rw [if_pos (by omega)]; first | done | rfl) | (rw [if_neg (by omega)]; first | done | rfl))
              ·skip
               refine xA tb hM0 2 [1,2,5,6,8] [] rfl ?_
               refine cx ?_
               try simp only [Int.toNat_zero] at *
               first
                 | (rw [pc_star1 (by assumption) (by omega) (h5 i (by omega) (by omega)) (hnk2 i (by omega) (h5 i (by omega) (by omega))) (by assumption)]; first | done | rfl)
                 | (rw [pc_star0 (by assumption) (by omega) (hnk2 i (by omega) (h5 i (by omega) (by omega))) (by assumption)]; first | done | rfl)
                 | (rw [pc_par1 (by assumption) (hnk i (by omega)) (by assumption)]; first | done | rfl)
                 | (rw [pc_other (fun q => by have q1 := q.1; have q2 := q.2; simp_all) (fun q => by have q1 := q.1; have q2 := q.2; first | omega | simp_all) (hnk i (by omega)) (fun _ => by omega)]; first | (rw [if_pos (by omega)]; first | done | rfl) | (rw [if_neg (by omega)]; first | done | rfl))
             ·skip
              refine xA tb hM0 9 [1,2,5,6,8] [] rfl ?_
              refine cx ?_
              try simp only [Int.toNat_zero] at *
              first
                | (rw [pc_star1 (by assumption) (by omega) (h5 i (by omega) (by omega)) (hnk2 i (by omega) (h5 i (by omega) (by omega))) (by assumption)]; first | done | rfl)
                | (rw [pc_star0 (by assumption) (by omega) (hnk2 i (by omega) (h5 i (by omega) (by omega))) (by assumption)]; first | done | rfl)
                | (rw [pc_par1 (by assumption) (hnk i (by omega)) (by assumption)]; first | done | rfl)
                | (rw [pc_other (fun q => by have q1 := q.1; have q2 := q.2; simp_all) (fun q => by have q1 := q.1; have q2 := q.2; first | omega | simp_all) (hnk i (by omega)) (fun _ => by omega)]; first | (rw [if_pos (by omega)]; first | done | rfl) | (rw [if_neg (by omega)]; first | done | rfl))
         ·rintro zs ⟨rfl⟩
          refine xA tb hM0 3 [1,2,6,121,122] [] rfl ?_
          refine oP rfl (pure_sadd rfl rfl rfl (by have := hal i (by omega); have := hsep i; have := hpc i; have := hkl i (by omega); have := htl (r.kids.getD i default); (try simp only [List.length_append, List.length_cons, List.length_nil]); omega)) ?_
          refine xA tb hM0 6 [1,2,5,25] [] rfl ?_
          refine oP rfl (pure_addi rfl rfl rfl (by omega)) ?_
          refine xA tb hM0 2 [1,2,5,6] [] rfl ?_
          refine nx ?_
          exact ⟨_, ⟨i + 1, rfl, by omega, by rw [accT_succ (by omega)]; rfl⟩, by omega⟩
     ·skip
      refine xA tb hM0 14 [5,126] [] rfl ?_
      refine spC 126 rfl ?_ ?_ <;> intro h103 <;> try simp only [dq] at h103
      ·skip
       refine xA tb hM0 3 [127] [] rfl ?_
       refine oP rfl (pure_sadd rfl rfl rfl (by have := hal i (by omega); (try simp only [List.length_append, List.length_cons, List.length_nil]); omega)) ?_
       refine xA tb hM0 10 [] [] rfl ?_
       refine end_ret rfl ?_
       first | (rw [textR_0 (by omega)]; first | done | rfl) | (rw [textR_2 (by omega)]; first | done | rfl) | (rw [accT_end (i := i) hnf (by omega) (by omega) (by omega) (by omega)]; first | (rw [if_pos (by omega)]; first | done | rfl) | (rw [if_neg (by omega)]; first | done | rfl))
      ·skip
       refine xA tb hM0 10 [] [] rfl ?_
       refine end_ret rfl ?_
       first | (rw [textR_0 (by omega)]; first | done | rfl) | (rw [textR_2 (by omega)]; first | done | rfl) | (rw [accT_end (i := i) hnf (by omega) (by omega) (by omega) (by omega)]; first | (rw [if_pos (by omega)]; first | done | rfl) | (rw [if_neg (by omega)]; first | done | rfl))
theorem fn36 : Fn1 Tryz.prog 36 Tryz.f36.ntmps 4 (Tryz.f36.body.getD .skip) := ⟨Tryz.f36, Tryz.func36, rfl, rfl, rfl, by kernel_rfl⟩
set_option maxRecDepth 100000 in
set_option maxHeartbeats 1000000 in
theorem rprint_call {a : List Letter} {r : Rx} (hr : r.size ≤ 137438953472) (ha : a.length ≤ 1099511627776) (ht : ∀ x ∈ a, x.text.length ≤ 1099511627776) : CallW Tryz.prog 36 [rx r, letters a] (.p (sbytes (printP a r))) := by
  have hz := size_simR r
  refine callW_of_codeS fn36 (Nat.le_of_ble_eq_true rfl) fun w0 M0 hM0 hdr => ?_
  refine xC tb hM0 2 [0,1] [] rfl ?_
  refine oP rfl (pure_box rfl rfl rfl hM0) ?_
  refine xA tb hM0 6 [1,2,6] [] rfl ?_
  refine oP rfl (pure_callN rfl rfl rfl rfl (rsimple_call (r := r) hr) hM0) ?_
  refine xA tb hM0 8 [1,5,8] [5] rfl ?_
  refine oP rfl (pure_call rfl rfl rfl (rvalid_call _ r (Nat.le_refl _) (by omega)) hM0) ?_
  refine xA tb hM0 2 [1,5,11] [5] rfl ?_
  refine spO 11 rfl ?_ ?_ <;> intro h1' <;> try simp only [dq] at h1'
  refine xA tb hM0 20 [] [] rfl ?_
  refine end_ret rfl ?_; rotate_left
  refine xA tb hM0 1 [1,5,11,12] [5] rfl ?_
  refine oP rfl (pure_call rfl rfl rfl (rvalidA_call ha ht) hM0) ?_
  refine xA tb hM0 3 [1,5,16] [5] rfl ?_
  refine spO 16 rfl ?_ ?_ <;> intro h2' <;> try simp only [dq] at h2'
  refine xA tb hM0 15 [] [] rfl ?_
  refine end_ret rfl ?_; rotate_left
  refine xA tb hM0 2 [1,5,16,17,18] [5] rfl ?_
  refine oP rfl (pure_call rfl rfl rfl (rknown_call ha _ (simR r) (Nat.le_refl _) (by omega)) hM0) ?_
  refine xA tb hM0 4 [1,5,21] [5] rfl ?_
  refine spC 21 rfl ?_ ?_ <;> intro h3 <;> try simp only [dq] at h3
  refine xA tb hM0 8 [] [] rfl ?_
  refine end_ret rfl ?_; rotate_left
  refine xA tb hM0 7 [22,23] [] rfl ?_
  refine oP rfl (pure_callW hdr rfl rfl rfl (rtext_call ha (by assumption) _ (simR r) (Nat.le_refl _) (by omega) (simR_nf r) (by assumption)) hM0) ?_
  refine xA tb hM0 4 [] [] rfl ?_
  refine end_ret rfl ?_; rotate_left
  all_goals
    unfold printP
    first | (rw [if_neg (fun q => by simp_all)]; first | done | rfl) | (rw [if_pos ⟨by assumption, by assumption, by assumption⟩]; first | done | rfl)
end Go.Proofs.YtgdehkimfmfofaaGreat

